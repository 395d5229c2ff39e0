/- A history read as data. Conditions: none. -/
import Derived.Test.YtfmcbdjnmlcacaaGreatDoorWEvE
import Derived.Test.YtfmcbdjnmlcacaaGreatDoorTie
import Derived.OpenShut
import Derived.Lib.LaidTab
import Derived.Lib.LaidU8
import Derived.ProofKit
import Derived.LaidMore
import Derived.LaidSub
import Derived.LaidHandle
import Derived.Lay
import Derived.SevenTiedAt
import Derived.Stop.Joined
set_option maxHeartbeats 4000000
set_option linter.unusedSectionVars false
set_option linter.unusedSimpArgs false
set_option linter.unusedVariables false
set_option maxRecDepth 100000
namespace Go.Proofs
open Go Go.Ab Go.H
section
variable {K:Type} {enc:TypeId×Value→K} {w:World}
theorem zq4:zcp enc Tryz.prog w 3 (fun n:Int=> [iv n]) (fun _=>True):= .int Tryz.underlying3
theorem ymp:zcp enc Tryz.prog w 4 (fun b:Bool=> [bv b]) (fun _=>True):= .bool Tryz.underlying4
theorem you:zcp enc Tryz.prog w 9 zfk (fun _=>True):= .string Tryz.underlying9
theorem yn2:zcp enc Tryz.prog w 57 yac (fun _=>True):=
 .map (fun x:Int×Int×Unit=>⟨x.1,x.2.1⟩) (.struct Tryz.underlying57 rfl (tot:=2) (by kernel_rfl) (.cons zq4 (s:=1) (by kernel_rfl) (.cons zq4 (s:=1) (by kernel_rfl) (.nil 2)))) (fun _=>rfl) (fun _ _=>trivial)
theorem yiu:zcp enc Tryz.prog w 70 zav (fun _=>True):=
 .map (fun x:Int×Ver×Unit=>⟨x.1,x.2.1⟩) (.struct Tryz.underlying70 rfl (tot:=3) (by kernel_rfl) (.cons zq4 (s:=1) (by kernel_rfl) (.cons yn2 (s:=2) (by kernel_rfl) (.nil 3)))) (fun _=>rfl) (fun _ _=>trivial)
theorem zly {n b b' c:Nat} (hb:b'=b) (hb0:0 < b) (hc:reachBytes / b≤c) (h:n * b'≤reachBytes):n≤c:=by subst hb;exact Nat.le_trans ((Nat.le_div_iff_mul_le hb0).2 h) hc
theorem yiy:zcp enc Tryz.prog w 58 (fun l:List Seen=> [zgz l]) (fun l=>l.length≤5864062014805):=
 .map (fun l:List Seen=>l) (.slice Tryz.underlying58 yiu (k:=3) (by kernel_rfl) (by decide) (by rw [show Tryz.prog.bytesOf 70=24 by kernel_rfl];decide)) (fun _=>rfl) (fun _ h=>zly (b:=24) (by kernel_rfl) (by decide) (by decide) h.1)
theorem yi6:zcp enc Tryz.prog w 29 (fun l:List Int=> [za6 l]) (fun l=>l.length≤17592186044416):=
 .map (fun l:List Int=>l) (.slice Tryz.underlying29 zq4 (k:=1) (by kernel_rfl) (by decide) (by rw [show Tryz.prog.bytesOf 3=8 by kernel_rfl];decide)) (fun _=>rfl) (fun _ h=>zly (b:=8) (by kernel_rfl) (by decide) (by decide) h.1)
theorem yav:zcp enc Tryz.prog w 22 (fun l:List ByteArray=> [zci l]) (fun l=>l.length≤8796093022208):=
 .map (fun l:List ByteArray=>l) (.slice Tryz.underlying22 you (k:=1) (by kernel_rfl) (by decide) (by rw [show Tryz.prog.bytesOf 9=16 by kernel_rfl];decide)) (fun _=>rfl) (fun _ h=>zly (b:=16) (by kernel_rfl) (by decide) (by decide) h.1)
theorem rEv:zcp enc Tryz.prog w 60 evR (fun e=>e.scan.length≤5864062014805):=
 .map (fun x:Int×Int×Int×Int×Int×Ver×Int×List Seen×Unit=>⟨x.1,x.2.1,x.2.2.1,x.2.2.2.1,x.2.2.2.2.1,x.2.2.2.2.2.1,x.2.2.2.2.2.2.1,x.2.2.2.2.2.2.2.1⟩)
  (.struct Tryz.underlying60 rfl (tot:=9) (by kernel_rfl) (.cons zq4 (s:=1) (by kernel_rfl) (.cons zq4 (s:=1) (by kernel_rfl) (.cons zq4 (s:=1) (by kernel_rfl) (.cons zq4 (s:=1) (by kernel_rfl) (.cons zq4 (s:=1) (by kernel_rfl)
   (.cons yn2 (s:=2) (by kernel_rfl) (.cons zq4 (s:=1) (by kernel_rfl) (.cons yiy (s:=1) (by kernel_rfl) (.nil 9)))))))))) (fun _=>rfl) (fun _ h=>h.2.2.2.2.2.2.2.1)
theorem yow:zcp enc Tryz.prog w 87 zeo (fun e=>e.ts.length≤17592186044416):=
 .map (fun x:Int×List Int×Unit=>⟨x.1,x.2.1⟩) (.struct Tryz.underlying87 rfl (tot:=2) (by kernel_rfl) (.cons zq4 (s:=1) (by kernel_rfl) (.cons yi6 (s:=1) (by kernel_rfl) (.nil 2)))) (fun _=>rfl) (fun _ h=>h.2.1)
theorem yox:zcp enc Tryz.prog w 109 zee (fun e=>e.ts.length≤17592186044416):=
 .map (fun x:Int×Int×Bool×List Int×Unit=>⟨x.1,x.2.1,x.2.2.1,x.2.2.2.1⟩) (.struct Tryz.underlying109 rfl (tot:=4) (by kernel_rfl) (.cons zq4 (s:=1) (by kernel_rfl) (.cons zq4 (s:=1) (by kernel_rfl) (.cons ymp (s:=1) (by kernel_rfl) (.cons yi6 (s:=1) (by kernel_rfl) (.nil 4)))))) (fun _=>rfl) (fun _ h=>h.2.2.2.1)
theorem yot:zcp enc Tryz.prog w 111 zfo (fun _=>True):=
 .map (fun x:Int×Int×Unit=>⟨x.1,x.2.1⟩) (.struct Tryz.underlying111 rfl (tot:=2) (by kernel_rfl) (.cons zq4 (s:=1) (by kernel_rfl) (.cons zq4 (s:=1) (by kernel_rfl) (.nil 2)))) (fun _=>rfl) (fun _ _=>trivial)
theorem yoy:zcp enc Tryz.prog w 23 (fun l:List Ev=> [zyn l]) (fun l=>l.length≤1599289640401∧∀e∈l,e.scan.length≤5864062014805):=
 .map (fun l:List Ev=>l) (.slice Tryz.underlying23 rEv (k:=9) (by kernel_rfl) (by decide) (by rw [show Tryz.prog.bytesOf 60=88 by kernel_rfl];decide)) (fun _=>rfl) (fun _ h=>⟨zly (b:=88) (by kernel_rfl) (by decide) (by decide) h.1,h.2⟩)
theorem yml:zcp enc Tryz.prog w 24 (fun l:List H.Ord=> [yf0 l]) (fun l=>l.length≤4398046511104∧∀e∈l,e.ts.length≤17592186044416):=
 .map (fun l:List H.Ord=>l) (.slice Tryz.underlying24 yow (k:=2) (by kernel_rfl) (by decide) (by rw [show Tryz.prog.bytesOf 87=32 by kernel_rfl];decide)) (fun _=>rfl) (fun _ h=>⟨zly (b:=32) (by kernel_rfl) (by decide) (by decide) h.1,h.2⟩)
theorem ymm:zcp enc Tryz.prog w 25 (fun l:List Mat=> [ybm l]) (fun l=>l.length≤2932031007402∧∀e∈l,e.ts.length≤17592186044416):=
 .map (fun l:List Mat=>l) (.slice Tryz.underlying25 yox (k:=4) (by kernel_rfl) (by decide) (by rw [show Tryz.prog.bytesOf 109=48 by kernel_rfl];decide)) (fun _=>rfl) (fun _ h=>⟨zly (b:=48) (by kernel_rfl) (by decide) (by decide) h.1,h.2⟩)
theorem ymi:zcp enc Tryz.prog w 26 (fun l:List Wan=> [yh8 l]) (fun l=>l.length≤8796093022208):=
 .map (fun l:List Wan=>l) (.slice Tryz.underlying26 yot (k:=2) (by kernel_rfl) (by decide) (by rw [show Tryz.prog.bytesOf 111=16 by kernel_rfl];decide)) (fun _=>rfl) (fun _ h=>zly (b:=16) (by kernel_rfl) (by decide) (by decide) h.1)
theorem ymn:zcp enc Tryz.prog w 28 y9 Big:=
 .map (fun x:List ByteArray×List ByteArray×List ByteArray×List ByteArray×List Ev×List H.Ord×List Mat×List Wan×Unit=>⟨x.1,x.2.1,x.2.2.1,x.2.2.2.1,x.2.2.2.2.1,x.2.2.2.2.2.1,x.2.2.2.2.2.2.1,x.2.2.2.2.2.2.2.1⟩)
  (.struct Tryz.underlying28 rfl (tot:=8) (by kernel_rfl) (.cons yav (s:=1) (by kernel_rfl) (.cons yav (s:=1) (by kernel_rfl) (.cons yav (s:=1) (by kernel_rfl) (.cons yav (s:=1) (by kernel_rfl) (.cons yoy (s:=1) (by kernel_rfl)
   (.cons yml (s:=1) (by kernel_rfl) (.cons ymm (s:=1) (by kernel_rfl) (.cons ymi (s:=1) (by kernel_rfl) (.nil 8)))))))))) (fun _=>rfl)
  (fun x h=>by
   obtain ⟨h1,h2,h3,h4,⟨h5,h6⟩,⟨h7,h8⟩,⟨h9,hA⟩,hB,_⟩:=h
   exact ⟨⟨Nat.le_trans h1 (by decide),Nat.le_trans h2 (by decide),Nat.le_trans h3 (by decide),Nat.le_trans h4 (by decide),Nat.le_trans h5 (by decide),Nat.le_trans h7 (by decide),Nat.le_trans h9 (by decide),Nat.le_trans hB (by decide),fun e he=>Nat.le_trans (h6 e he) (by decide),fun e he=>Nat.le_trans (h8 e he) (by decide),fun e he=>Nat.le_trans (hA e he) (by decide)⟩,h1,h2,h3,h4,h7,h9,hB,h6,h8,hA⟩)
end
theorem yd3 {α:Type} (s:Nat):∀(n:Nat) (cs:List α) (f:Nat→List α),cs.length=n * s→(∀i,i < n→(cs.drop (i * s)).take s=f i)→cs=(List.range n).flatMap f
 |0,cs,f,h,_=>by simp at h;subst h;rfl
 |n+1,cs,f,h,k=>by
  have h0:=k 0 (by omega)
  have ih:=yd3 s n (cs.drop s) (fun i=>f (i+1)) (by rw [List.length_drop,h,Nat.add_mul];omega) fun i hi=>by
   have:=k (i+1) (by omega)
   rw [Nat.add_mul,Nat.one_mul,Nat.add_comm,←List.drop_drop] at this
   exact this
  rw [List.range_succ_eq_map,List.flatMap_cons,List.flatMap_map,←h0]
  simp only [Nat.zero_mul,List.drop_zero]
  have e:cs=cs.take s++cs.drop s:=(List.take_append_drop s cs).symm
  rw [ih] at e
  exact e
theorem zrv {P:Program} {w:World} {n:String} {g t:Nat} {d:DataW Unit} {vals:List Value} {T:TypeId} (hr:Lib.VarReads P w n d) (hg:P.globalNamed n=some g) (ht:(P.globals[g]?).map (·.type)=some t)
 (hv:∀fuel cs p,DataW.trod (fun _=>()) P w 0 (fun _=>true) false fuel t cs=some (d,p)→cs=vals):(Res.glob g T (vals.map .v)).holds w noX:=by
 obtain ⟨g',t',cs,fuel,p,h1,h2,h3,h4⟩:=hr
 obtain rfl:=Option.some.inj (hg.symm.trans h1)
 obtain rfl:=Option.some.inj (ht.symm.trans h2)
 have hcs:=hv _ _ _ h4
 unfold World.var? at h3
 rw [hg] at h3
 simp only [Option.bind_some] at h3
 split at h3
 ·rename_i c T0 fr hh
  cases h3
  refine ⟨fun h=>h,(Array.getElem?_eq_some_iff.1 hh).1,cs,T0,fr,hh,by rw [oM,←hcs];simp,fun j j1 j2=> ?_⟩
  rw [List.getElem_map]
  have:vals[j]'(by simpa using j1)=cs[j]:=by simp [←hcs]
  rw [this]
  exact .v _
 ·cases h3
theorem ym8 {w:World} (h:Lib.VarReads Tryz.prog w "yardarm/history.limits" YtfmcbdjnmlcacaaGreatDoor.Rows.laid_yardarm_history_limits):(Res.glob 2 156 y2).holds w noX:=
 zrv (vals:= [300,60,300,60].map fun z=>Value.int .i64 z) h (by kernel_rfl) (show _=some 156 by kernel_rfl) fun fuel cs p hd=>
  Lib.cells_of_tab (zs:= [300,60,300,60]) Tryz.underlying156 Tryz.underlying3 (by kernel_rfl) (by kernel_rfl) hd
def ztp:List Int:=(List.range 256).map zca
theorem zqu:YtfmcbdjnmlcacaaGreatDoor.Rows.laid_unicode_utf8_first=Lib.tabData .u8 ztp:=by kernel_rfl
theorem ym7 {w:World} (h:Lib.VarReads Tryz.prog w "unicode/utf8.first" YtfmcbdjnmlcacaaGreatDoor.Rows.laid_unicode_utf8_first):(Res.glob 4 305 y3).holds w noX:=by
 have:=zrv (P:=Tryz.prog) (w:=w) (n:= "unicode/utf8.first") (g:=4) (t:=305) (d:=YtfmcbdjnmlcacaaGreatDoor.Rows.laid_unicode_utf8_first) (T:=305) (vals:=ztp.map fun z=>Value.int .u8 z) h (by kernel_rfl) (by kernel_rfl) fun fuel cs p hd=>
  Lib.cells_of_tab (zs:=ztp) Tryz.underlying305 Tryz.underlying5 (by kernel_rfl) (by kernel_rfl) (zqu ▸ hd)
 simpa [y3,ztp,List.map_map,Function.comp_def] using this
def yob (i:Nat):List Int:= [[128,160,128,144,128].getD i 0,[191,191,159,191,143].getD i 0]
theorem zzn:(YtfmcbdjnmlcacaaGreatDoor.Rows.laid_unicode_utf8_acceptRanges:DataW Unit)= .agg ((List.range 16).map fun i=> .agg ((yob i).map fun z=> .lit (.int .u8 z))):=by kernel_rfl
theorem yhq:z8=((List.range 16).flatMap fun i=>(yob i).map fun z=>Value.int .u8 z).map .v:=rfl
theorem ym6 {w:World} (h:Lib.VarReads Tryz.prog w "unicode/utf8.acceptRanges" YtfmcbdjnmlcacaaGreatDoor.Rows.laid_unicode_utf8_acceptRanges):(Res.glob 5 308 z8).holds w noX:=by
 rw [yhq]
 refine zrv (T:=308) h (by kernel_rfl) (show _=some 308 by kernel_rfl) fun fuel cs p hd=> ?_
 rw [zzn] at hd
 have c132:Tryz.prog.cellsOf 307=2:=by kernel_rfl
 have c133:Tryz.prog.cellsOf 308=32:=by kernel_rfl
 have hlen:cs.length=16 * 2:=by
  obtain ⟨_,_,_,_,hl,_⟩:=DataW.trod_array Tryz.underlying308 hd
  rw [hl,c133]
 refine yd3 2 16 cs _ hlen fun i hi=> ?_
 obtain ⟨f',d,q,h1,h2⟩:=Lib.array_elem Tryz.underlying308 hd i hi
 simp only [List.getElem?_map,List.getElem?_range hi,Option.map_some,Option.some.injEq] at h1
 subst h1
 rw [c132] at h2
 exact Lib.ints_of_struct Tryz.underlying307 (fun j f hj=>by
  match j,hj with
  |0,hj=>simp at hj;subst hj;exact ⟨Tryz.underlying5,rfl,by kernel_rfl⟩
  |1,hj=>simp at hj;subst hj;exact ⟨Tryz.underlying5,rfl,by kernel_rfl⟩
  |j+2,hj=>simp at hj) (by rw [c132];rfl) h2
theorem ygx {w:World} (h0:(Res.glob 2 156 y2).holds w noX) (h1:(Res.glob 4 305 y3).holds w noX) (h2:(Res.glob 5 308 z8).holds w noX):
 HRel noX w [.glob 2 156 y2,.glob 4 305 y3,.glob 5 308 z8]:=by
 have hO:OO [.glob 2 156 y2,.glob 4 305 y3,.glob 5 308 z8] noX=noX:=by funext b;simp [OO,j5,noX,Res.own]
 refine ⟨by simp [j5,Res.own],fun b hb=>by simp [j5,Res.own] at hb,fun b hb=>hb.elim,fun r hr=> ?_⟩
 rw [hO]
 simp only [List.mem_cons,List.not_mem_nil,or_false] at hr
 rcases hr with rfl|rfl|rfl <;> assumption
theorem ynx:OO [.glob 2 156 y2,.glob 4 305 y3,.glob 5 308 z8] noX=noX:=by funext b;simp [OO,j5,noX,Res.own]
end Go.Proofs
set_option maxRecDepth 100000
namespace Go.Proofs.YtfmcbdjnmlcacaaGreatDoor
open Go Go.Ab Go.H Go.ChangeShapes Go.WideShapes Go.ChangeAt Go.RowKit
theorem own:ownKnob Tryz.prog.godebug=none:=by kernel_rfl
def znz:List (String×DataW Unit):= [("unicode/utf8.acceptRanges",Rows.laid_unicode_utf8_acceptRanges),("yardarm/history.limits",Rows.laid_yardarm_history_limits),("yardarm/rules.asks",Rows.laid_yardarm_rules_asks),("unicode/utf8.first",Rows.laid_unicode_utf8_first)]
def zrp:List (String×DataW Unit):= [("unicode/utf8.acceptRanges",Rows.laid_unicode_utf8_acceptRanges),("yardarm/history.limits",Rows.laid_yardarm_history_limits),("unicode/utf8.first",Rows.laid_unicode_utf8_first)]
theorem ztg:(znz.filter fun x=>x.2.handleName?.isNone)=zrp:=by kernel_rfl
theorem yby {W:World} (h:laidMetH Tryz.prog znz W):laidMet Tryz.prog zrp W:=by
 have:=(laidMetH_iff.1 h).1
 rw [ztg] at this
 exact this
theorem zx1 {W:World} (h:laidMetH Tryz.prog znz W):HRel noX W [.glob 2 156 y2,.glob 4 305 y3,.glob 5 308 z8]:=by
 have h:=yby h
 exact ygx (ym8 (Lib.laidMet.reads h (.tail _ (.head _)))) (ym7 (Lib.laidMet.reads h (.tail _ (.tail _ (.head _))))) (ym6 (Lib.laidMet.reads h (.head _)))
def ynr:List Value:= .nilFunc:: [300,307,308,309,310,311,312,313,314,315].map fun f=> .func (.func f) #[] #[]
noncomputable def wit0 (os:Os):World:={World.holding Tryz.prog os ⟨#[], #[],[]⟩ with heap:=(World.holding Tryz.prog os ⟨#[], #[],[]⟩).heap.modify 3 (Lay.setRow ynr)}
noncomputable def wit (os:Os):World:=(wit0 os).layVars Tryz.prog zrp
theorem yh6 (os:Os):(wit os).os=os:=World.layVars_os _ _ _
theorem yep (os:Os) (args:Array Value):laidMetH Tryz.prog znz ((wit os).forCall (fun _ _=>0) ⟨#[],args,[]⟩).memory:=by
 refine laidMetH_of_parts3 (fuel:=8) ?_ (by kernel_rfl) (by kernel_rfl)
 rw [ztg]
 have h:laidMet Tryz.prog zrp (wit os):=laidMet_layVars (w0:=wit0 os) (zrp.map (·.1)) [] (by kernel_rfl) (by kernel_rfl) (by kernel_rfl) (by
  rw [show (zrp.filter fun x=> !(zrp.map (·.1)).contains x.1)= [] by kernel_rfl];exact LaidIn.none)
 exact h.of_heap (by simp [World.memory,World.forCall,Input.heap])
theorem zu7 {W W':World} (hk:Keep [] W [] W'):RowKit.Below W.heap.size W {W' with tape:=W.tape}:=
 ⟨hk.env.1.1,rfl,hk.env.1.2,hk.size,fun k hk'=>(hk.same k hk' (by simp)).1⟩
theorem ybz {W W':World} (hk:Keep [] W [] W') (may:MemPlace→Prop):W.keptBut W' may:=by
 refine ⟨hk.env.1.1,hk.env.1.2,fun i hi=> ?_⟩
 rw [(hk.same i hi (by simp)).1]
 generalize W.heap[i]? =o
 cases o with
 |none=>rfl
 |some o=>cases o <;> first|rfl|exact ⟨rfl,rfl,rfl,fun _ _=>rfl⟩|exact .inr ⟨rfl,rfl⟩
section
variable {H:Type} {enc:TypeId×Value→H}
theorem zv6 {W W':World} {v:Value} {d:DataW H} {ps:List MemPlace} (hk:Keep [] W [] W') (h:DataW.Trod enc Tryz.prog W 0 (fun _=>true) true 28 v d ps) (hlt:∀x∈ps,x.block < W.heap.size):
 DataW.Trod enc Tryz.prog W' 0 (fun b=>decide (b < W.heap.size)) true 28 v d ps:=
 DataW.Trod.of_heap (w:={W' with tape:=W.tape}) (w':=W') rfl (Below.trod (by kernel_rfl) (by kernel_rfl) (by decide+kernel) h (zu7 hk) hlt)
theorem yb4 {W:World} {cs:Array Value} {d:DataW H} {ps:List MemPlace} (h:DataW.Trod enc Tryz.prog W 0 (fun _=>true) true 28 (.agg cs) d ps) (hw:∀n∈d.weights Tryz.prog 28,n≤reachBytes):
 ∃x,Big x∧Rel W noX (.agg (y9 x)) (.agg cs):=by
 obtain ⟨fuel,hf⟩:=h
 obtain ⟨x,hlim,hx⟩:=ymn fuel _ _ hf hw
 exact ⟨x,hlim,.agg _ _ (by simpa [Value.cells] using hx.1) fun j h1 h2=>by simpa [Value.cells] using hx.2 j h1 (by simpa [Value.cells] using h2)⟩
theorem ygy {W:World} {cs:Array Value} {d:DataW H} {ps:List MemPlace} (h:DataW.Trod enc Tryz.prog W 0 (fun _=>true) true 28 (.agg cs) d ps) (hw:∀n∈d.weights Tryz.prog 28,n≤reachBytes):
 ∃x,Lim 4611686018427387904 x∧Rel W noX (.agg (y9 x)) (.agg cs):=by
 obtain ⟨x,hb,hr⟩:=yb4 h hw
 exact ⟨x,hb.lim,hr⟩
end
end Go.Proofs.YtfmcbdjnmlcacaaGreatDoor
namespace Go.Ab
open Go
class HasMapE (h:List Res) (r:Nat) (i:outParam Nat) (es:outParam (List (Value×AV))) (j st:outParam Nat):Prop where
 h:h[i]? =some (.mape r es j st)
instance HasMapE.head {r:Nat} {es:List (Value×AV)} {j st:Nat} {h:List Res}:HasMapE (.mape r es j st::h) r 0 es j st:=⟨rfl⟩
instance HasMapE.tail {r i:Nat} {es:List (Value×AV)} {j st:Nat} {x:Res} {h:List Res} [k:HasMapE h r i es j st]:HasMapE (x::h) r (i+1) es j st:=⟨by simpa using k.h⟩
def zjs {K:Type} [DecidableEq K] (k:K) (z:AV) (es:List (K×AV)):List (K×AV):=match zcv k es with
 |some _=>es
 |none=>es++ [(k,z)]
theorem zpj {K:Type} [DecidableEq K] (k:K) (z:AV):∀es:List (K×AV),zcv k es=none→zcv k (es++ [(k,z)])=some z
 | [],_=>by simp [zcv]
 |p::es,h=>by
  simp only [zcv,List.cons_append] at h ⊢
  split at h
  ·cases h
  ·rename_i hn;rw [if_neg hn];exact zpj k z es h
theorem zxv {K:Type} [DecidableEq K] (k:K) (z:AV) (es:List (K×AV)):(zcv k (zjs k z es)).getD z=(zcv k es).getD z:=by
 unfold zjs
 cases h:zcv k es with
 |some a=>simp [h]
 |none=>simp [zpj k z es h]
section
variable {P:Program} {ro:Option Nat} {nt:Nat} {dst:Option Tmp} {ty:TypeId} {pos:String} {after:Array Edge} {guard:Option (Nat×Bool)} {x y z:Operand} {t:Fr} {h:List Res} {ds:List Nat} {next:St→Prop} {f:Operand→Option AV}
 {K:Type} [DecidableEq K] {enc:K→Value} {es:List (K×AV)} {kt et T:TypeId} {r i:Nat} {k:K} {av:AV}
theorem zrh {d:Tmp} {kv:AV} {zv:Value} {h':Res→List Res} (hlt:dok nt (some d)=true) (hx:ev t x=some (.v (.map (some r)))) (hy:ev t y=some kv) [hkv:KeyV kv (enc k)] [hm:HasMap h r i (j9 enc es)] [hu:Und P T (.map kt et)] [hkt:KeyT P kt enc] [hz:ZerV P et zv]
 [hset:∀y,SetAt h i y (h' y)] (hk:∀(j st:Nat),(∀a,(j9 enc (zjs k (.v zv) es)).modify j (fun p=>(p.1,a))=j9 enc (zmf k a es))→
  next ⟨(d,.tup [(zcv k es).getD (.v zv),.v (.int .i64 st)])::t,h' (.mape r (j9 enc (zjs k (.v zv) es)) j st),ds⟩):
 OE P ro nt ⟨some d,.mapEntry T x y,ty,pos,after,guard⟩ ⟨t,h,ds⟩ next:=by
 intro X a w Kc Q hs hK
 refine ⟨zad,?_⟩
 obtain ⟨ents,clock,h1,h2,h3,h4,h5⟩:=hs.heap.holds _ (List.mem_of_getElem? hm.h)
 have hks:=keys_of_holds h2 h3
 have hl':es.length=ents.toList.length:=by simpa [j9] using h2
 have hle:es.length=ents.size:=by simpa using hl'
 have hfind:=hkt.find w k ents.toList (es.map (·.1)) hks
 have hrun:∃ents' clock' j st v,(Instr.mapEntry T (a.eval x) (a.eval y)).run P w= .ok (.tuple #[v,.int .i64 (st:Nat)]) {w with heap:=w.heap.setIfInBounds r (.map ents' clock')}∧
  Rel w (OO h X) ((zcv k es).getD (.v zv)) v∧(∀a,(j9 enc (zjs k (.v zv) es)).modify j (fun p=>(p.1,a))=j9 enc (zmf k a es))∧
  (j9 enc (zjs k (.v zv) es)).length=ents'.size∧(∀i (h1:i < (j9 enc (zjs k (.v zv) es)).length) (h2:i < ents'.size),(j9 enc (zjs k (.v zv) es))[i].1=ents'[i].key∧Rel w (OO h X) (j9 enc (zjs k (.v zv) es))[i].2 ents'[i].val)∧
  (∀i (h:i < ents'.size),ents'[i].born < clock')∧(∀i j (hi:i < ents'.size) (hj:j < ents'.size),i < j→ents'[i].born < ents'[j].born)∧∃h:j < ents'.size,ents'[j].born=st:=by
  rw [(hs.env.rel x _ hx).v_eq,hkv.h w _ _ (hs.env.rel y _ hy)]
  simp only [Instr.mapEntry,Sem.run_bind,run_underlying (h:=hu),Result.andThen_ok,MapKept.run_getObj_map h1,hkt.chk,hfind]
  rcases zi6 k es ents.toList 0 hl' with ⟨g,b,c⟩|⟨j,g1,g2,g,b,c,d⟩
  ·rw [g]
   have he:zjs k (.v zv) es=es++ [(k,.v zv)]:=by unfold zjs;rw [b]
   rw [he]
   refine ⟨ents.push {key:=enc k,val:=zv,born:=clock},clock+1,es.length,clock,zv,?_,by rw [b];exact .v _,fun a=> ?_,by simp [j9,hle],fun i a1 a2=> ?_,fun i a1=> ?_,fun i j a1 a2 a3=> ?_,by simp [hle],?_⟩
   ·simp only [Sem.run_bind,run_zeroValue hz.h,Result.andThen_ok,MapKept.run_setObj_map _ h1,Sem.run_pure,goInt]
   ·rw [c a]
    simp only [j9,List.map_append,List.map_cons,List.map_nil]
    have:es.length=(es.map fun p=>(enc p.1,p.2)).length:=by simp
    rw [this]
    have hmod:∀(l:List (Value×AV)) (p:Value×AV) (g:Value×AV→Value×AV),(l++ [p]).modify l.length g=l++ [g p]:=by
     intro l p g
     induction l with
     |nil=>rfl
     |cons q l ih=>simp [ih]
    rw [hmod]
   ·simp only [j9,List.map_append,List.map_cons,List.map_nil,List.getElem_append,Array.getElem_push]
    by_cases hi:i < ents.size
    ·have:i < (List.map (fun p:K×AV=>(enc p.1,p.2)) es).length:=by simp;omega
     simp only [hi,this,dif_pos]
     exact h3 i (by simpa [j9] using this) hi
    ·have h9:¬i < (List.map (fun p:K×AV=>(enc p.1,p.2)) es).length:=by simp;omega
     simp only [hi,h9,dif_neg,not_false_eq_true,List.getElem_singleton]
     exact ⟨trivial,.v _⟩
   ·rw [Array.getElem_push]
    split
    ·have:=h4 i (by assumption);omega
    ·simp
   ·simp only [Array.size_push] at a1 a2
    rw [Array.getElem_push,Array.getElem_push]
    split <;> split
    ·exact h5 i j _ _ a3
    ·have:=h4 i (by assumption);simpa using this
    ·omega
    ·omega
   ·simp [Array.getElem_push,hle]
  ·have hj:j < ents.size:=by simpa using g2
   have hkey:ents[j].key=enc k:=by
    have:=(h3 j (by simpa [j9] using g1) hj).1
    simp [j9] at this
    rw [←this,c]
   have he:zjs k (.v zv) es=es:=by unfold zjs;rw [b]
   rw [g,he]
   have hgd:((ents[j]?).map (·.key)).getD (enc k)=enc k:=by
    rw [Array.getElem?_eq_getElem hj];simp [hkey]
   have hsame:(ents.modify j fun e=>{e with key:=enc k})=ents:=by
    apply Array.ext
    ·simp
    ·intro q q1 q2
     rw [Array.getElem_modify]
     split
     ·rename_i hjq;subst hjq
      have hk2:∀e:MapEntry,e.key=enc k→({e with key:=enc k}:MapEntry)=e:=fun e he=>by
       cases e;simp only at he;subst he;rfl
      exact hk2 _ hkey
     ·rfl
   refine ⟨ents,clock,j,ents[j].born,ents[j].val,?_,?_,fun a=> ?_,h2,h3,h4,h5,hj,rfl⟩
   ·simp only [Sem.run_bind,Nat.zero_add,hgd,zfd (P:=P) (kt:=kt),Result.andThen_ok,hsame,MapKept.run_setObj_map _ h1,Sem.run_pure,goInt]
    simp only [Array.getElem?_eq_getElem hj,Option.map_some,Option.getD_some]
    rfl
   ·rw [b]
    have:=(h3 j (by simpa [j9] using g1) hj).2
    simpa [j9] using this
   ·rw [d a]
    refine List.ext_getElem (by simp [j9]) fun q q1 q2=> ?_
    simp only [j9,List.getElem_modify,List.getElem_map,List.getElem_set]
    split
    ·rename_i hq;subst hq;rw [c]
    ·rfl
 obtain ⟨ents',clock',j,st,v,e,hv,hmod,e1,e2,e3,e4,e5,e6⟩:=hrun
 rw [zba rfl]
 have e':(execOp a.eval (⟨some d,.mapEntry T x y,ty,pos,after,guard⟩:Oper)).run P w= .ok (.value (.tuple #[v,.int .i64 (st:Nat)])) {w with heap:=w.heap.setIfInBounds r (.map ents' clock')}:=run_v _ e
 rw [e']
 have hlt':r < w.heap.size:=(Array.getElem?_eq_some_iff.1 h1).1
 have hoth:∀b,b≠r→(w.heap.setIfInBounds r (.map ents' clock'))[b]? =w.heap[b]? :=fun b hb=>by rw [Array.getElem?_setIfInBounds_ne (Ne.symm hb)]
 have hrown:OO h X r:= .inl (zai.2 ⟨_,List.mem_of_getElem? hm.h,by simp [Res.own]⟩)
 have hkk:∀b,¬OO h X b→b < w.heap.size→(w.heap.setIfInBounds r (.map ents' clock'))[b]? =w.heap[b]? ∧¬OO h X b:=fun b hb hl=>⟨hoth b (fun q=>hb (q ▸ hrown)),hb⟩
 have hholds:(Res.mape r (j9 enc (zjs k (.v zv) es)) j st).holds {w with heap:=w.heap.setIfInBounds r (.map ents' clock')} (OO h X):=
  ⟨ents',clock',by simp [hlt'],e1,fun i a1 a2=>⟨(e2 i a1 a2).1,(e2 i a1 a2).2.keep (by simp) hkk⟩,e3,e4,e5,e6⟩
 have hh2:=hs.heap.set (w':={w with heap:=w.heap.setIfInBounds r (.map ents' clock')}) hm.h (y:= .mape r (j9 enc (zjs k (.v zv) es)) j st) rfl (by simp) (fun b hb hne=>hoth b (by simpa [Res.own] using hne)) hholds
 rw [(hset _).h] at hh2
 have hown:j5 (h' (.mape r (j9 enc (zjs k (.v zv) es)) j st))=j5 h:=by rw [←(hset _).h];exact zc5 hm.h rfl
 have hkeep:Keep (j5 h) w (j5 (h' (.mape r (j9 enc (zjs k (.v zv) es)) j st))) {w with heap:=w.heap.setIfInBounds r (.map ents' clock')}:=⟨by simp,fun b hb ho=>⟨hoth b (fun q=>ho (q ▸ zai.2 ⟨_,List.mem_of_getElem? hm.h,by simp [Res.own]⟩)),by rw [hown];exact ho⟩,zg7.eq rfl rfl rfl (by first|exact Nat.le_refl _|exact Nat.le_succ _)⟩
 have hkoo:=fun b hb hl=>hkeep.oo (X:=X) b hb hl
 refine hK _ _ _ (hk j st hmod) (Sim.put (s:=⟨t,h' (.mape r (j9 enc (zjs k (.v zv) es)) j st),ds⟩) ⟨hh2,hs.size,hs.fr.keep hkeep.size (fun b hb hl=>hkoo b hb hl),hs.defs⟩ hlt (.tup _ _ rfl fun q q1 q2=> ?_)) hkeep
 match q,q1,q2 with
 |0,_,_=>exact hv.keep hkeep.size (fun b hb hl=>hkoo b hb hl)
 |1,_,_=>exact .v _
 |q+2,q1,_=>simp at q1;omega
theorem znv {j st:Nat} {es' es2:List (Value×AV)} {h':List Res} (hx:ev t x=some (.v (.map (some r)))) (hy:ev t y=some (.v (.int .i64 st))) (hz:ev t z=some av) [hm:HasMapE h r i es' j st] (he:es'.modify j (fun p=>(p.1,av))=es2)
 [hset:SetAt h i (.map r es2) h'] (hk:next ⟨t,h',ds⟩):OE P ro nt ⟨none,.entryStore T x y z,ty,pos,after,guard⟩ ⟨t,h,ds⟩ next:=by
 refine ze7 rfl rfl (fun X a w hs=> ?_) hk
 obtain ⟨ents,clock,h1,h2,h3,h4,h5,hj,h6⟩:=hs.heap.holds _ (List.mem_of_getElem? hm.h)
 have hrv:=hs.env.rel z _ hz
 subst he
 have hidx:ents.findIdx? (fun e=>((e.born:Nat):Int)==((st:Nat):Int))=some j:=by
  rw [Array.findIdx?_eq_some_iff_getElem]
  refine ⟨hj,by simp [h6],fun q hq=> ?_⟩
  have:=h5 q j (by omega) hj hq
  simp;omega
 obtain ⟨ents',hents⟩:∃e,e=ents.modify j (fun e=>{e with val:=a.eval z}):=⟨_,rfl⟩
 have hsz:ents'.size=ents.size:=by rw [hents];simp
 have hrun:(Instr.entryStore T (a.eval x) (a.eval y) (a.eval z)).run P w= .ok () {w with heap:=w.heap.setIfInBounds r (.map ents' clock)}:=by
  rw [(hs.env.rel x _ hx).v_eq,(hs.env.rel y _ hy).v_eq]
  simp only [Instr.entryStore,Sem.run_bind,MapKept.run_getObj_map h1,Result.andThen_ok,asInt,asIntOf,Sem.run_pure,hidx,MapKept.run_setObj_map _ h1,hents]
 have hlt:r < w.heap.size:=(Array.getElem?_eq_some_iff.1 h1).1
 have hoth:∀b,b≠r→(w.heap.setIfInBounds r (.map ents' clock))[b]? =w.heap[b]? :=fun b hb=>by rw [Array.getElem?_setIfInBounds_ne (Ne.symm hb)]
 have hrown:OO h X r:= .inl (zai.2 ⟨_,List.mem_of_getElem? hm.h,by simp [Res.own]⟩)
 have hkk:∀b,¬OO h X b→b < w.heap.size→(w.heap.setIfInBounds r (.map ents' clock))[b]? =w.heap[b]? ∧¬OO h X b:=fun b hb hl=>⟨hoth b (fun q=>hb (q ▸ hrown)),hb⟩
 have hmapholds:(Res.map r (es'.modify j (fun p=>(p.1,av)))).holds {w with heap:=w.heap.setIfInBounds r (.map ents' clock)} (OO h X):=by
  refine ⟨ents',clock,by simp [hlt],by simp [hsz,h2],fun i a1 a2=> ?_,fun i a1=> ?_,fun i j' a1 a2 a3=> ?_⟩
  ·have b1:i < es'.length:=by simpa using a1
   have b2:i < ents.size:=by omega
   have:=h3 i b1 b2
   subst hents
   rw [List.getElem_modify,Array.getElem_modify]
   split
   ·exact ⟨this.1,hrv.keep (by simp) hkk⟩
   ·exact ⟨this.1,this.2.keep (by simp) hkk⟩
  ·subst hents
   rw [Array.getElem_modify]
   have b2:i < ents.size:=by simpa using a1
   split <;> exact h4 i b2
  ·subst hents
   have b1:i < ents.size:=by simpa using a1
   have b2:j' < ents.size:=by simpa using a2
   rw [Array.getElem_modify,Array.getElem_modify]
   split <;> split <;> exact h5 i j' b1 b2 a3
 have hh2:=hs.heap.set (w':={w with heap:=w.heap.setIfInBounds r (.map ents' clock)}) hm.h (y:= .map r (es'.modify j (fun p=>(p.1,av)))) rfl (by simp) (fun b hb hne=>hoth b (by simpa [Res.own] using hne)) hmapholds
 rw [hset.h] at hh2
 have hown:j5 h'=j5 h:=by rw [←hset.h];exact zc5 hm.h rfl
 have hkeep:Keep (j5 h) w (j5 h') {w with heap:=w.heap.setIfInBounds r (.map ents' clock)}:=⟨by simp,fun b hb ho=>⟨hoth b (fun q=>ho (q ▸ zai.2 ⟨_,List.mem_of_getElem? hm.h,by simp [Res.own]⟩)),by rw [hown];exact ho⟩,zg7.eq rfl rfl rfl (by first|exact Nat.le_refl _|exact Nat.le_succ _)⟩
 exact ⟨_,zwv hrun,⟨hh2,hs.size,hs.fr.keep hkeep.size (fun b hb hl=>hkeep.oo b hb hl),hs.defs⟩,hkeep⟩
theorem zq8 {kv:AV} {zv:Value} {j st:Nat} (hx:f x=some (.v (.map (some r)))) (hy:f y=some kv) [hkv:KeyV kv (enc k)] [hm:HasMapE h r i (j9 enc (zjs k (.v zv) es)) j st] [hu:Und P T (.map kt et)] [hkt:KeyT P kt enc] [hz:ZerV P et zv]
 (hl:(zcv k es).getD (.v zv)=av):QR P h f ⟨dst,.lookup T x y false,ty,pos,after,guard⟩ av:=fun X ρ w hev=>by
 obtain ⟨ents,clock,h1,h2,h3,h4,h5,_⟩:=hev.heap.holds _ (List.mem_of_getElem? hm.h)
 have hks:=keys_of_holds h2 h3
 have hl':(zjs k (.v zv) es).length=ents.toList.length:=by simpa [j9] using h2
 have hfind:=hkt.find w k ents.toList ((zjs k (.v zv) es).map (·.1)) hks
 have key:=zxv k (.v zv) es
 rw [hl] at key
 have hrun:∃v,(Instr.lookup T (ρ x) (ρ y) false).run P w= .ok v w∧Rel w (OO h X) av v:=by
  rw [(hev.rel x _ hx).v_eq,hkv.h w _ _ (hev.rel y _ hy)]
  simp only [Instr.lookup,Sem.run_bind,run_underlying (h:=hu),Result.andThen_ok,MapKept.run_getObj_map h1,Sem.run_pure,hkt.chk,hfind]
  rcases zi6 k (zjs k (.v zv) es) ents.toList 0 hl' with ⟨a,b,c⟩|⟨j,g1,g2,a,b,c,d⟩
  ·rw [b] at key
   refine ⟨zv,?_,by rw [←key];exact .v _⟩
   rw [a];simp [run_zeroValue hz.h]
  ·rw [b] at key
   refine ⟨(ents[j]'(by simpa using g2)).val,?_,?_⟩
   ·rw [a];simp
   ·have:=(h3 j (by simpa [j9] using g1) (by simpa using g2)).2
    rw [←key];simpa [j9] using this
 obtain ⟨v,e,hr⟩:=hrun
 exact ⟨v,run_v _ e,hr⟩
end
def zb4 (p:Int×Int×Int):Value:= .agg #[.int .i64 p.1,.int .i64 p.2.1,.int .i64 p.2.2]
class Chk3 (P:Program) (kt:TypeId):Prop where
 h:∀(e:Bool) (w:World) (a b c:Int),(Instr.checkKey e 10000 kt (.agg #[.int .i64 a,.int .i64 b,.int .i64 c])).run P w= .ok () w
instance KeyT.int3 {P:Program} {kt:TypeId} [he:EqInts P kt 3] [hc:Chk3 P kt] [hi:IsA P kt true]:KeyT P kt zb4 where
 inj:=fun a b h=>by
  obtain ⟨a1,a2,a3⟩:=a;obtain ⟨b1,b2,b3⟩:=b
  simpa [zb4] using h
 stays:=fun a=>by simp [zb4,Instr.sameBits]
 chk:=fun e w k=>hc.h e w k.1 k.2.1 k.2.2
 find:=fun w k l ks h=>by
  obtain ⟨d,hd,hb⟩:=hi.h
  refine (congrArg (fun r=>r) (run_findKey_eq (P:=P) (w:=w) (k:=kt) (by rw [hd];cases d <;> simp [ynt] at hb ⊢) _ l)).trans ?_
  refine ze9 (fun w a b=> ?_) k w l ks 0 h
  have:=zmn (P:=P) (T:=kt) w (xs:= [a.1,a.2.1,a.2.2]) (ys:= [b.1,b.2.1,b.2.2]) rfl rfl
  simp only [zb4]
  refine this.trans ?_;obtain ⟨a1,a2,a3⟩:=a;obtain ⟨b1,b2,b3⟩:=b
  congr 1
  by_cases h1:a1=b1 <;> by_cases h2:a2=b2 <;> by_cases h3:a3=b3 <;> simp [h1,h2,h3]
instance KeyV.int3 {a b c:Int}:KeyV (.agg [.v (.int .i64 a),.v (.int .i64 b),.v (.int .i64 c)]) (zb4 (a,b,c)):=⟨fun w O u r=>by
 cases r with
 |agg _ cs hl hr=>
  simp at hl
  have h0:=(hr 0 (by simp) (by omega)).v_eq
  have h1:=(hr 1 (by simp) (by omega)).v_eq
  have h2:=(hr 2 (by simp) (by omega)).v_eq
  simp only [zb4]
  congr 1
  apply Array.ext
  ·simp [←hl]
  ·intro i hi hi2
   match i,hi,hi2 with
   |0,_,_=>exact h0
   |1,_,_=>exact h1
   |2,_,_=>exact h2
   |i+3,hi,hi2=>simp at hi2;omega⟩
class ZV (z:Value) (a:AV):Prop where
 h:∀w O u,Rel w O (.v z) u→Rel w O a u
instance ZV.v {z:Value}:ZV z (.v z):=⟨fun _ _ _ h=>h⟩
instance ZV.agg2 {a b:Value}:ZV (.agg #[a,b]) (.agg [.v a,.v b]):=⟨fun w O u h=>by
 rw [h.v_eq]
 refine .agg _ _ rfl fun j h1 h2=> ?_
 match j,h1,h2 with
 |0,_,_=>exact .v _
 |1,_,_=>exact .v _
 |j+2,h1,_=>simp at h1;omega⟩
theorem zhc {P:Program} {h:List Res} {f:Operand→Option AV} {o:Oper} {a b:AV} (hw:∀w O v,Rel w O a v→Rel w O b v) (q:QR P h f o a):QR P h f o b:=fun X ρ w he=>
 let ⟨v,e,r⟩:=q X ρ w he;⟨v,e,hw _ _ _ r⟩
theorem zpc {P:Program} {h:List Res} {f:Operand→Option AV} {o:Oper} {a b:AV} (q:QR P h f o a) (e:a=b):QR P h f o b:=e ▸ q
section
variable {P:Program} {ro:Option Nat} {nt:Nat} {dst:Option Tmp} {ty:TypeId} {pos:String} {after:Array Edge} {guard:Option (Nat×Bool)} {x y z:Operand} {t:Fr} {h h':List Res} {ds:List Nat} {next:St→Prop} {f:Operand→Option AV}
 {K V:Type} [DecidableEq K] {enc:K→Value} {g:V→AV} {m:List (K×V)} {kt et T:TypeId} {r i:Nat} {k:K} {kv:AV}
theorem zkc {zv:Value} {d:V} [hz:ZV zv (g d)] {w:World} {O:Nat→Prop} {u:Value} (h:Rel w O ((zcv k (zau g m)).getD (.v zv)) u):Rel w O (g ((zap k m).getD d)) u:=by
 rw [ziw] at h
 cases hg:zap k m with
 |some a=>rw [hg] at h;exact h
 |none=>rw [hg] at h;exact hz.h w O u h
theorem za0 (d:V) {zv:Value} (hx:f x=some (.v (.map (some r)))) (hy:f y=some kv) [hkv:KeyV kv (enc k)] [hm:HasMap h r i (j9 enc (zau g m))] [hu:Und P T (.map kt et)] [hkt:KeyT P kt enc] [hz:ZerV P et zv] [hd:ZV zv (g d)]:
 QR P h f ⟨dst,.lookup T x y false,ty,pos,after,guard⟩ (g ((zap k m).getD d)):=
 zhc (fun w O v hr=>zkc hr) (zo7 hx hy rfl)
theorem zd6 (d:V) {zv:Value} {b:Bool} (hx:f x=some (.v (.map (some r)))) (hy:f y=some kv) [hkv:KeyV kv (enc k)] [hm:HasMap h r i (j9 enc (zau g m))] [hu:Und P T (.map kt et)] [hkt:KeyT P kt enc] [hz:ZerV P et zv] [hd:ZV zv (g d)]
 (hb:(zap k m).isSome=b):QR P h f ⟨dst,.lookup T x y true,ty,pos,after,guard⟩ (.tup [g ((zap k m).getD d),.v (.bool b)]):=
 zhc (fun w O v hr=>by
  cases hr with
  |tup _ cs hl hr=>
   refine .tup _ _ (by simpa using hl) fun j h1 h2=> ?_
   match j,h1,h2 with
   |0,_,h2=>exact zkc (hr 0 (by simp) h2)
   |1,_,h2=>exact hr 1 (by simp) h2
   |j+2,h1,_=>simp at h1;omega) (zuv hx hy rfl (b:=b) (by rw [ziw,Option.isSome_map];exact hb))
theorem zw8 (d:V) {zv:Value} {j st:Nat} (hx:f x=some (.v (.map (some r)))) (hy:f y=some kv) [hkv:KeyV kv (enc k)] [hm:HasMapE h r i (j9 enc (zjs k (.v zv) (zau g m))) j st] [hu:Und P T (.map kt et)] [hkt:KeyT P kt enc] [hz:ZerV P et zv] [hd:ZV zv (g d)]:
 QR P h f ⟨dst,.lookup T x y false,ty,pos,after,guard⟩ (g ((zap k m).getD d)):=
 zhc (fun w O v hr=>zkc hr) (zq8 hx hy rfl)
theorem j8 {v:V} (hx:ev t x=some (.v (.map (some r)))) (hy:ev t y=some kv) (hz:ev t z=some (g v)) [hkv:KeyV kv (enc k)] [hm:HasMap h r i (j9 enc (zau g m))] [hu:Und P T (.map kt et)] [hkt:KeyT P kt enc]
 [hset:SetAt h i (.map r (j9 enc (zau g (zcq k v m)))) h'] (hk:next ⟨t,h',ds⟩):OE P ro nt ⟨none,.mapUpdate T x y z,ty,pos,after,guard⟩ ⟨t,h,ds⟩ next:=by
 have:SetAt h i (.map r (j9 enc (zmf k (g v) (zau g m)))) h':=by rw [zkt];exact hset
 exact zjh hx hy hz hk
theorem ziu {d:Tmp} {zv:Value} {h':Res→List Res} (hlt:dok nt (some d)=true) (hx:ev t x=some (.v (.map (some r)))) (hy:ev t y=some kv) [hkv:KeyV kv (enc k)] [hm:HasMap h r i (j9 enc (zau g m))] [hu:Und P T (.map kt et)] [hkt:KeyT P kt enc] [hz:ZerV P et zv]
 [hset:∀y,SetAt h i y (h' y)] (hk:∀(j st:Nat),(∀v,(j9 enc (zjs k (.v zv) (zau g m))).modify j (fun p=>(p.1,g v))=j9 enc (zau g (zcq k v m)))→
  next ⟨(d,.tup [(zcv k (zau g m)).getD (.v zv),.v (.int .i64 st)])::t,h' (.mape r (j9 enc (zjs k (.v zv) (zau g m))) j st),ds⟩):
 OE P ro nt ⟨some d,.mapEntry T x y,ty,pos,after,guard⟩ ⟨t,h,ds⟩ next:=
 zrh hlt hx hy fun j st hj=>hk j st fun v=>by rw [hj (g v),zkt]
theorem zlb {v:V} {j st:Nat} {es':List (Value×AV)} (hx:ev t x=some (.v (.map (some r)))) (hy:ev t y=some (.v (.int .i64 st))) (hz:ev t z=some (g v)) [hm:HasMapE h r i es' j st] (he:es'.modify j (fun p=>(p.1,g v))=j9 enc (zau g (zcq k v m)))
 [hset:SetAt h i (.map r (j9 enc (zau g (zcq k v m)))) h'] (hk:next ⟨t,h',ds⟩):OE P ro nt ⟨none,.entryStore T x y z,ty,pos,after,guard⟩ ⟨t,h,ds⟩ next:=
 znv hx hy hz he hk
theorem yo1 {d:Tmp} {op:Op} {av:AV} (hq:QR P h (ev t) ⟨some d,op,ty,pos,after,guard⟩ av) (hk:next ⟨(d,av)::t,h,ds⟩) (hd:dok nt (some d)=true:=by rfl) (hn:zbb ⟨some d,op,ty,pos,after,guard⟩=true:=by rfl):
 OE P ro nt ⟨some d,op,ty,pos,after,guard⟩ ⟨t,h,ds⟩ next:=fun X a w K Q hs hK=>
 ze6 hq hn X a w K Q hs.env fun v w' hr hh hkp=>hK _ _ _ hk (Sim.put (s:=⟨t,h,ds⟩) ⟨hh,hs.size,hs.fr.keep hkp.size (fun b hb hl=>hkp.oo b hb hl),hs.defs⟩ hd hr) hkp
theorem zmr {tys:List TypeId} (hx:f x=some (.v (.map (some r)))) [hm:HasMap h r i (j9 enc (zau g m))] [hu:Und P T (.map kt et)]:QR P h f ⟨dst,.call ⟨.builtin .len,[x].toArray,(T::tys).toArray⟩,ty,pos,after,guard⟩ (.v (.int .i64 m.length)):=fun X ρ w he=>by
 obtain ⟨ents,clock,h1,h2,_⟩:=he.heap.holds _ (List.mem_of_getElem? hm.h)
 refine ⟨.int .i64 m.length,?_,.v _⟩
 have hl:m.length=ents.size:=by simpa [j9,zau] using h2
 simp only [execOp,resolve,List.map_toArray,List.map_cons,List.map_nil,(he.rel x _ hx).v_eq,Sem.run_bind,Sem.run_pure,Result.andThen_ok,invoke,builtin,Builtin.len_,List.getElem?_toArray,List.getElem?_cons_zero,run_underlying (h:=hu),MapKept.run_getObj_map h1,hl]
 rfl
end
end Go.Ab
set_option maxRecDepth 10000
namespace Go.Proofs
open Go Go.Ab
attribute [local irreducible] QR QV OE zb5 aw zce zcn za2 zbr thn zd9 zcl jch zd7
open Go.H
instance:Chk2 Tryz.prog 326:=⟨fun e w a b=>by kernel_rfl⟩
instance:Chk3 Tryz.prog 328:=⟨fun e w a b c=>by kernel_rfl⟩
abbrev mpv (r:Nat):AV:= .v (.map (some r))
abbrev nmp:AV:= .v (.map none)
abbrev zv5 (v:Ver):AV:= .agg (yac v)
instance:ZV (.agg #[.int .i64 0,.int .i64 0]) (zv5 ⟨0,0⟩):=ZV.agg2
abbrev zbq (h:Hist):List AV:=y9 h++ [nmp,nmp,nmp,nmp,nmp]
abbrev ybs (h:Hist) (r1 r2 r3 r4 r5:Nat):List AV:=y9 h++ [mpv r1,mpv r2,mpv r3,mpv r4,mpv r5]
abbrev zch (bl:Nat) (h:Hist) (p:List Ev) (r1 r2 r3 r4 r5:Nat) (W:List Res):List Res:= .box bl 252 (ybs h r1 r2 r3 r4 r5):: .map r1 (j9 intK (zau bv (zz2 p))):: .map r2 (j9 intK (zau bv (zzw p)))::
 .map r3 (j9 zan (zau iv (zua p))):: .map r4 (j9 zan (zau zv5 (ybx p))):: .map r5 (j9 zb4 (zau bv (zzv p)))::W
def za8:Option Nat→AV
 |some i=> .tup [iv i,bv true]
 |none=> .tup [iv 0,bv false]
theorem zjq {full:Bool} (l:List Int) (fv:AV) (p:Int→Bool) (G:List Res) (hp:∀a∈l,y1 Tryz.prog fv [iv a] G (fun r h'=>h'=G∧r=bv (p a))) (hlen:l.length≤4611686018427387904):y8 Tryz.prog 102 [.list full 1 (l.map za9),fv] G (fun r h'=>h'=G∧r=iv (zbh p 0 l)):=by
 refine z6 Tryz.func102 rfl rfl rfl ?_
 refine rn ?_;refine zab (fun k:Nat=>k≤l.length∧zbh p 0 l=zbh p k (l.drop k)) (fun k=>⟨[(8,iv k),(7,iv (l.map za9).length),(0,.list full 1 (l.map za9)),(1,fv)],G,[]⟩) (fun k=>l.length - k) 0 ⟨Nat.zero_le _,by simp⟩
  (v1 (.cons _ _ _ rfl (.cons _ _ _ rfl (.cons _ _ _ rfl (.cons _ _ _ rfl (.nil)))))) ?_
 rintro k ⟨hk,hnot⟩
 refine rn ?_;refine y0 rfl (fun hc9=> ?_) (fun hc9=> ?_)
 ·have hk2:k < l.length:=by simpa using hc9
  have hrow:(l.map za9)[k]? =some (za9 l[k]):=by simp [hk2]
  have hd:=List.drop_eq_getElem_cons hk2
  refine rn ?_;refine qv rfl rfl (y4 rfl rfl (hp l[k] (by simp))) ?_
  refine rn ?_;refine y0 rfl (fun hc16=> ?_) (fun hc16=> ?_)
  ·refine rn ?_;exact zal rfl (.refl _ _) ⟨rfl,by rw [hnot,hd,zbh,if_pos hc16];rfl⟩
  ·refine rn ?_;exact ⟨k+1,⟨by omega,by rw [hnot,hd,zbh,if_neg (by simp [hc16])]⟩,(v1 (.cons _ _ _ rfl (.cons _ _ _ rfl (.cons _ _ _ rfl (.cons _ _ _ rfl (.nil)))))),by omega⟩
 ·have hk3:k=l.length:=by
   have:l.length≤k:=by simpa using hc9
   omega
  refine rn ?_;exact zal rfl (.refl _ _) ⟨rfl,by rw [hnot,hk3,List.drop_length,zbh];rfl⟩
theorem zgc {full:Bool} (l:List Int) (fv:AV) (p:Int→Bool) (G:List Res) (hp:∀a∈l,y1 Tryz.prog fv [iv a] G (fun r h'=>h'=G∧r=bv (p a))) (hlen:l.length≤4611686018427387904):y8 Tryz.prog 227 [.list full 1 (l.map za9),fv] G (fun r h'=>h'=G∧r=bv (l.any p)):=by
 refine z6 Tryz.func227 rfl rfl rfl ?_
 refine rn ?_;refine qv rfl rfl (y4 rfl rfl (y1.of_fun (zjq l _ p G hp hlen))) ?_
 refine rn ?_;exact zal rfl (.refl _ _) ⟨rfl,by simp only [←zdw p l 0];rfl⟩
theorem zzl (a:Int) (fv:AV) (v:Bool) (b:Nat) (G:List Res) (hp:y1 Tryz.prog fv [iv a] G (fun r h'=>h'=G∧r=bv v)):y8 Tryz.prog 228 [iv a,pZ b] (.box b 142 [fv]::G) (fun r h'=>h'= .box b 142 [fv]::G∧r=bv (!v)):=by
 refine z6 Tryz.func228 rfl rfl rfl ?_
 refine rn ?_;refine qv rfl rfl (y4 rfl rfl (y1.quiet (R:=fun x=>x=bv v) (h2:= [_]) (List.perm_append_comm (l₁:= [_])) hp)) ?_
 refine rn ?_;exact zal rfl (.refl _ _) ⟨rfl,rfl⟩
theorem yle {full:Bool} (l:List Int) (fv:AV) (p:Int→Bool) (G:List Res) (hone:fv.cellsOf=some [fv]) (hp:∀a∈l,y1 Tryz.prog fv [iv a] G (fun r h'=>h'=G∧r=bv (p a))) (hlen:l.length≤4611686018427387904):y8 Tryz.prog 189 [.list full 1 (l.map za9),fv] G (fun r h'=>h'=G∧r=bv (l.all p)):=by
 refine z6 Tryz.func189 rfl rfl rfl ?_
 refine rn ?_;refine z7 rfl (w7 rfl hone rfl fun b3=> ?_)
 refine rn ?_;refine qv rfl rfl (y4 rfl rfl (y1.of_fun (zgc l _ (fun a=> !p a) (.box b3 142 [fv]::G) (fun a ha=>y1.of_acall (fs:= []) (cs:= [pZ b3]) (zzl a fv (p a) b3 G (hp a ha))) hlen))) ?_
 refine rn ?_;exact zal rfl (.drop1 _ _ _) ⟨rfl,by simp only [←zhk p l];rfl⟩
theorem zrt {full:Bool} (l:List Ev) (fv:AV) (p:Ev→Bool) (G:List Res) (hp:∀a∈l,y1 Tryz.prog fv [.agg (evR a)] G (fun r h'=>h'=G∧r=bv (p a))) (hlen:l.length≤4611686018427387904):y8 Tryz.prog 268 [.list full 9 (l.map evR),fv] G (fun r h'=>h'=G∧r=iv (zbh p 0 l)):=by
 refine z6 Tryz.func268 rfl rfl rfl ?_
 refine rn ?_;refine zab (fun k:Nat=>k≤l.length∧zbh p 0 l=zbh p k (l.drop k)) (fun k=>⟨[(8,iv k),(7,iv (l.map evR).length),(0,.list full 9 (l.map evR)),(1,fv)],G,[]⟩) (fun k=>l.length - k) 0 ⟨Nat.zero_le _,by simp⟩
  (v1 (.cons _ _ _ rfl (.cons _ _ _ rfl (.cons _ _ _ rfl (.cons _ _ _ rfl (.nil)))))) ?_
 rintro k ⟨hk,hnot⟩
 refine rn ?_;refine y0 rfl (fun hc9=> ?_) (fun hc9=> ?_)
 ·have hk2:k < l.length:=by simpa using hc9
  have hrow:(l.map evR)[k]? =some (evR l[k]):=by simp [hk2]
  have hd:=List.drop_eq_getElem_cons hk2
  refine rn ?_;refine qv rfl rfl (y4 rfl rfl (hp l[k] (by simp))) ?_
  refine rn ?_;refine y0 rfl (fun hc16=> ?_) (fun hc16=> ?_)
  ·refine rn ?_;exact zal rfl (.refl _ _) ⟨rfl,by rw [hnot,hd,zbh,if_pos hc16];rfl⟩
  ·refine rn ?_;exact ⟨k+1,⟨by omega,by rw [hnot,hd,zbh,if_neg (by simp [hc16])]⟩,(v1 (.cons _ _ _ rfl (.cons _ _ _ rfl (.cons _ _ _ rfl (.cons _ _ _ rfl (.nil)))))),by omega⟩
 ·have hk3:k=l.length:=by
   have:l.length≤k:=by simpa using hc9
   omega
  refine rn ?_;exact zal rfl (.refl _ _) ⟨rfl,by rw [hnot,hk3,List.drop_length,zbh];rfl⟩
theorem zg4 {full:Bool} (l:List Ev) (fv:AV) (p:Ev→Bool) (G:List Res) (hp:∀a∈l,y1 Tryz.prog fv [.agg (evR a)] G (fun r h'=>h'=G∧r=bv (p a))) (hlen:l.length≤4611686018427387904):y8 Tryz.prog 229 [.list full 9 (l.map evR),fv] G (fun r h'=>h'=G∧r=bv (l.any p)):=by
 refine z6 Tryz.func229 rfl rfl rfl ?_
 refine rn ?_;refine qv rfl rfl (y4 rfl rfl (y1.of_fun (zrt l _ p G hp hlen))) ?_
 refine rn ?_;exact zal rfl (.refl _ _) ⟨rfl,by simp only [←zdw p l 0];rfl⟩
theorem ycw (a:Ev) (fv:AV) (v:Bool) (b:Nat) (G:List Res) (hp:y1 Tryz.prog fv [.agg (evR a)] G (fun r h'=>h'=G∧r=bv v)):y8 Tryz.prog 230 [.agg (evR a),pZ b] (.box b 233 [fv]::G) (fun r h'=>h'= .box b 233 [fv]::G∧r=bv (!v)):=by
 refine z6 Tryz.func230 rfl rfl rfl ?_
 refine rn ?_;refine z7 rfl (w7 rfl rfl rfl fun b2=> ?_)
 refine rn ?_;refine qv rfl rfl (y4 rfl rfl (y1.quiet (R:=fun x=>x=bv v) (h2:= [_,_]) (List.perm_append_comm (l₁:= [_,_])) hp)) ?_
 refine rn ?_;exact zal rfl (.drop1 _ _ _) ⟨rfl,rfl⟩
theorem yns {full:Bool} (l:List Ev) (fv:AV) (p:Ev→Bool) (G:List Res) (hone:fv.cellsOf=some [fv]) (hp:∀a∈l,y1 Tryz.prog fv [.agg (evR a)] G (fun r h'=>h'=G∧r=bv (p a))) (hlen:l.length≤4611686018427387904):y8 Tryz.prog 192 [.list full 9 (l.map evR),fv] G (fun r h'=>h'=G∧r=bv (l.all p)):=by
 refine z6 Tryz.func192 rfl rfl rfl ?_
 refine rn ?_;refine z7 rfl (w7 rfl hone rfl fun b3=> ?_)
 refine rn ?_;refine qv rfl rfl (y4 rfl rfl (y1.of_fun (zg4 l _ (fun a=> !p a) (.box b3 233 [fv]::G) (fun a ha=>y1.of_acall (fs:= []) (cs:= [pZ b3]) (ycw a fv (p a) b3 G (hp a ha))) hlen))) ?_
 refine rn ?_;exact zal rfl (.drop1 _ _ _) ⟨rfl,by simp only [←zhk p l];rfl⟩
theorem zjo {full:Bool} (l:List Ord) (fv:AV) (p:Ord→Bool) (G:List Res) (hp:∀a∈l,y1 Tryz.prog fv [.agg (zeo a)] G (fun r h'=>h'=G∧r=bv (p a))) (hlen:l.length≤4611686018427387904):y8 Tryz.prog 206 [.list full 2 (l.map zeo),fv] G (fun r h'=>h'=G∧r=iv (zbh p 0 l)):=by
 refine z6 Tryz.func206 rfl rfl rfl ?_
 refine rn ?_;refine zab (fun k:Nat=>k≤l.length∧zbh p 0 l=zbh p k (l.drop k)) (fun k=>⟨[(8,iv k),(7,iv (l.map zeo).length),(0,.list full 2 (l.map zeo)),(1,fv)],G,[]⟩) (fun k=>l.length - k) 0 ⟨Nat.zero_le _,by simp⟩
  (v1 (.cons _ _ _ rfl (.cons _ _ _ rfl (.cons _ _ _ rfl (.cons _ _ _ rfl (.nil)))))) ?_
 rintro k ⟨hk,hnot⟩
 refine rn ?_;refine y0 rfl (fun hc9=> ?_) (fun hc9=> ?_)
 ·have hk2:k < l.length:=by simpa using hc9
  have hrow:(l.map zeo)[k]? =some (zeo l[k]):=by simp [hk2]
  have hd:=List.drop_eq_getElem_cons hk2
  refine rn ?_;refine qv rfl rfl (y4 rfl rfl (hp l[k] (by simp))) ?_
  refine rn ?_;refine y0 rfl (fun hc16=> ?_) (fun hc16=> ?_)
  ·refine rn ?_;exact zal rfl (.refl _ _) ⟨rfl,by rw [hnot,hd,zbh,if_pos hc16];rfl⟩
  ·refine rn ?_;exact ⟨k+1,⟨by omega,by rw [hnot,hd,zbh,if_neg (by simp [hc16])]⟩,(v1 (.cons _ _ _ rfl (.cons _ _ _ rfl (.cons _ _ _ rfl (.cons _ _ _ rfl (.nil)))))),by omega⟩
 ·have hk3:k=l.length:=by
   have:l.length≤k:=by simpa using hc9
   omega
  refine rn ?_;exact zal rfl (.refl _ _) ⟨rfl,by rw [hnot,hk3,List.drop_length,zbh];rfl⟩
theorem zeb {full:Bool} (l:List Ord) (fv:AV) (p:Ord→Bool) (G:List Res) (hp:∀a∈l,y1 Tryz.prog fv [.agg (zeo a)] G (fun r h'=>h'=G∧r=bv (p a))) (hlen:l.length≤4611686018427387904):y8 Tryz.prog 242 [.list full 2 (l.map zeo),fv] G (fun r h'=>h'=G∧r=bv (l.any p)):=by
 refine z6 Tryz.func242 rfl rfl rfl ?_
 refine rn ?_;refine qv rfl rfl (y4 rfl rfl (y1.of_fun (zjo l _ p G hp hlen))) ?_
 refine rn ?_;exact zal rfl (.refl _ _) ⟨rfl,by simp only [←zdw p l 0];rfl⟩
theorem zzj (a:Ord) (fv:AV) (v:Bool) (b:Nat) (G:List Res) (hp:y1 Tryz.prog fv [.agg (zeo a)] G (fun r h'=>h'=G∧r=bv v)):y8 Tryz.prog 243 [.agg (zeo a),pZ b] (.box b 235 [fv]::G) (fun r h'=>h'= .box b 235 [fv]::G∧r=bv (!v)):=by
 refine z6 Tryz.func243 rfl rfl rfl ?_
 refine rn ?_;refine z7 rfl (w7 rfl rfl rfl fun b2=> ?_)
 refine rn ?_;refine qv rfl rfl (y4 rfl rfl (y1.quiet (R:=fun x=>x=bv v) (h2:= [_,_]) (List.perm_append_comm (l₁:= [_,_])) hp)) ?_
 refine rn ?_;exact zal rfl (.drop1 _ _ _) ⟨rfl,rfl⟩
theorem ylc {full:Bool} (l:List Ord) (fv:AV) (p:Ord→Bool) (G:List Res) (hone:fv.cellsOf=some [fv]) (hp:∀a∈l,y1 Tryz.prog fv [.agg (zeo a)] G (fun r h'=>h'=G∧r=bv (p a))) (hlen:l.length≤4611686018427387904):y8 Tryz.prog 195 [.list full 2 (l.map zeo),fv] G (fun r h'=>h'=G∧r=bv (l.all p)):=by
 refine z6 Tryz.func195 rfl rfl rfl ?_
 refine rn ?_;refine z7 rfl (w7 rfl hone rfl fun b3=> ?_)
 refine rn ?_;refine qv rfl rfl (y4 rfl rfl (y1.of_fun (zeb l _ (fun a=> !p a) (.box b3 235 [fv]::G) (fun a ha=>y1.of_acall (fs:= []) (cs:= [pZ b3]) (zzj a fv (p a) b3 G (hp a ha))) hlen))) ?_
 refine rn ?_;exact zal rfl (.drop1 _ _ _) ⟨rfl,by simp only [←zhk p l];rfl⟩
theorem zjp {full:Bool} (l:List Mat) (fv:AV) (p:Mat→Bool) (G:List Res) (hp:∀a∈l,y1 Tryz.prog fv [.agg (zee a)] G (fun r h'=>h'=G∧r=bv (p a))) (hlen:l.length≤4611686018427387904):y8 Tryz.prog 205 [.list full 4 (l.map zee),fv] G (fun r h'=>h'=G∧r=iv (zbh p 0 l)):=by
 refine z6 Tryz.func205 rfl rfl rfl ?_
 refine rn ?_;refine zab (fun k:Nat=>k≤l.length∧zbh p 0 l=zbh p k (l.drop k)) (fun k=>⟨[(8,iv k),(7,iv (l.map zee).length),(0,.list full 4 (l.map zee)),(1,fv)],G,[]⟩) (fun k=>l.length - k) 0 ⟨Nat.zero_le _,by simp⟩
  (v1 (.cons _ _ _ rfl (.cons _ _ _ rfl (.cons _ _ _ rfl (.cons _ _ _ rfl (.nil)))))) ?_
 rintro k ⟨hk,hnot⟩
 refine rn ?_;refine y0 rfl (fun hc9=> ?_) (fun hc9=> ?_)
 ·have hk2:k < l.length:=by simpa using hc9
  have hrow:(l.map zee)[k]? =some (zee l[k]):=by simp [hk2]
  have hd:=List.drop_eq_getElem_cons hk2
  refine rn ?_;refine qv rfl rfl (y4 rfl rfl (hp l[k] (by simp))) ?_
  refine rn ?_;refine y0 rfl (fun hc16=> ?_) (fun hc16=> ?_)
  ·refine rn ?_;exact zal rfl (.refl _ _) ⟨rfl,by rw [hnot,hd,zbh,if_pos hc16];rfl⟩
  ·refine rn ?_;exact ⟨k+1,⟨by omega,by rw [hnot,hd,zbh,if_neg (by simp [hc16])]⟩,(v1 (.cons _ _ _ rfl (.cons _ _ _ rfl (.cons _ _ _ rfl (.cons _ _ _ rfl (.nil)))))),by omega⟩
 ·have hk3:k=l.length:=by
   have:l.length≤k:=by simpa using hc9
   omega
  refine rn ?_;exact zal rfl (.refl _ _) ⟨rfl,by rw [hnot,hk3,List.drop_length,zbh];rfl⟩
theorem zgb {full:Bool} (l:List Mat) (fv:AV) (p:Mat→Bool) (G:List Res) (hp:∀a∈l,y1 Tryz.prog fv [.agg (zee a)] G (fun r h'=>h'=G∧r=bv (p a))) (hlen:l.length≤4611686018427387904):y8 Tryz.prog 244 [.list full 4 (l.map zee),fv] G (fun r h'=>h'=G∧r=bv (l.any p)):=by
 refine z6 Tryz.func244 rfl rfl rfl ?_
 refine rn ?_;refine qv rfl rfl (y4 rfl rfl (y1.of_fun (zjp l _ p G hp hlen))) ?_
 refine rn ?_;exact zal rfl (.refl _ _) ⟨rfl,by simp only [←zdw p l 0];rfl⟩
theorem zzk (a:Mat) (fv:AV) (v:Bool) (b:Nat) (G:List Res) (hp:y1 Tryz.prog fv [.agg (zee a)] G (fun r h'=>h'=G∧r=bv v)):y8 Tryz.prog 245 [.agg (zee a),pZ b] (.box b 193 [fv]::G) (fun r h'=>h'= .box b 193 [fv]::G∧r=bv (!v)):=by
 refine z6 Tryz.func245 rfl rfl rfl ?_
 refine rn ?_;refine z7 rfl (w7 rfl rfl rfl fun b2=> ?_)
 refine rn ?_;refine qv rfl rfl (y4 rfl rfl (y1.quiet (R:=fun x=>x=bv v) (h2:= [_,_]) (List.perm_append_comm (l₁:= [_,_])) hp)) ?_
 refine rn ?_;exact zal rfl (.drop1 _ _ _) ⟨rfl,rfl⟩
theorem yld {full:Bool} (l:List Mat) (fv:AV) (p:Mat→Bool) (G:List Res) (hone:fv.cellsOf=some [fv]) (hp:∀a∈l,y1 Tryz.prog fv [.agg (zee a)] G (fun r h'=>h'=G∧r=bv (p a))) (hlen:l.length≤4611686018427387904):y8 Tryz.prog 197 [.list full 4 (l.map zee),fv] G (fun r h'=>h'=G∧r=bv (l.all p)):=by
 refine z6 Tryz.func197 rfl rfl rfl ?_
 refine rn ?_;refine z7 rfl (w7 rfl hone rfl fun b3=> ?_)
 refine rn ?_;refine qv rfl rfl (y4 rfl rfl (y1.of_fun (zgb l _ (fun a=> !p a) (.box b3 193 [fv]::G) (fun a ha=>y1.of_acall (fs:= []) (cs:= [pZ b3]) (zzk a fv (p a) b3 G (hp a ha))) hlen))) ?_
 refine rn ?_;exact zal rfl (.drop1 _ _ _) ⟨rfl,by simp only [←zhk p l];rfl⟩
theorem zpo {full:Bool} (l:List Wan) (fv:AV) (p:Wan→Bool) (G:List Res) (hp:∀a∈l,y1 Tryz.prog fv [.agg (zfo a)] G (fun r h'=>h'=G∧r=bv (p a))) (hlen:l.length≤4611686018427387904):y8 Tryz.prog 272 [.list full 2 (l.map zfo),fv] G (fun r h'=>h'=G∧r=iv (zbh p 0 l)):=by
 refine z6 Tryz.func272 rfl rfl rfl ?_
 refine rn ?_;refine zab (fun k:Nat=>k≤l.length∧zbh p 0 l=zbh p k (l.drop k)) (fun k=>⟨[(8,iv k),(7,iv (l.map zfo).length),(0,.list full 2 (l.map zfo)),(1,fv)],G,[]⟩) (fun k=>l.length - k) 0 ⟨Nat.zero_le _,by simp⟩
  (v1 (.cons _ _ _ rfl (.cons _ _ _ rfl (.cons _ _ _ rfl (.cons _ _ _ rfl (.nil)))))) ?_
 rintro k ⟨hk,hnot⟩
 refine rn ?_;refine y0 rfl (fun hc9=> ?_) (fun hc9=> ?_)
 ·have hk2:k < l.length:=by simpa using hc9
  have hrow:(l.map zfo)[k]? =some (zfo l[k]):=by simp [hk2]
  have hd:=List.drop_eq_getElem_cons hk2
  refine rn ?_;refine qv rfl rfl (y4 rfl rfl (hp l[k] (by simp))) ?_
  refine rn ?_;refine y0 rfl (fun hc16=> ?_) (fun hc16=> ?_)
  ·refine rn ?_;exact zal rfl (.refl _ _) ⟨rfl,by rw [hnot,hd,zbh,if_pos hc16];rfl⟩
  ·refine rn ?_;exact ⟨k+1,⟨by omega,by rw [hnot,hd,zbh,if_neg (by simp [hc16])]⟩,(v1 (.cons _ _ _ rfl (.cons _ _ _ rfl (.cons _ _ _ rfl (.cons _ _ _ rfl (.nil)))))),by omega⟩
 ·have hk3:k=l.length:=by
   have:l.length≤k:=by simpa using hc9
   omega
  refine rn ?_;exact zal rfl (.refl _ _) ⟨rfl,by rw [hnot,hk3,List.drop_length,zbh];rfl⟩
theorem zga {full:Bool} (l:List Wan) (fv:AV) (p:Wan→Bool) (G:List Res) (hp:∀a∈l,y1 Tryz.prog fv [.agg (zfo a)] G (fun r h'=>h'=G∧r=bv (p a))) (hlen:l.length≤4611686018427387904):y8 Tryz.prog 246 [.list full 2 (l.map zfo),fv] G (fun r h'=>h'=G∧r=bv (l.any p)):=by
 refine z6 Tryz.func246 rfl rfl rfl ?_
 refine rn ?_;refine qv rfl rfl (y4 rfl rfl (y1.of_fun (zpo l _ p G hp hlen))) ?_
 refine rn ?_;exact zal rfl (.refl _ _) ⟨rfl,by simp only [←zdw p l 0];rfl⟩
theorem zzi (a:Wan) (fv:AV) (v:Bool) (b:Nat) (G:List Res) (hp:y1 Tryz.prog fv [.agg (zfo a)] G (fun r h'=>h'=G∧r=bv v)):y8 Tryz.prog 247 [.agg (zfo a),pZ b] (.box b 238 [fv]::G) (fun r h'=>h'= .box b 238 [fv]::G∧r=bv (!v)):=by
 refine z6 Tryz.func247 rfl rfl rfl ?_
 refine rn ?_;refine z7 rfl (w7 rfl rfl rfl fun b2=> ?_)
 refine rn ?_;refine qv rfl rfl (y4 rfl rfl (y1.quiet (R:=fun x=>x=bv v) (h2:= [_,_]) (List.perm_append_comm (l₁:= [_,_])) hp)) ?_
 refine rn ?_;exact zal rfl (.drop1 _ _ _) ⟨rfl,rfl⟩
theorem ylb {full:Bool} (l:List Wan) (fv:AV) (p:Wan→Bool) (G:List Res) (hone:fv.cellsOf=some [fv]) (hp:∀a∈l,y1 Tryz.prog fv [.agg (zfo a)] G (fun r h'=>h'=G∧r=bv (p a))) (hlen:l.length≤4611686018427387904):y8 Tryz.prog 199 [.list full 2 (l.map zfo),fv] G (fun r h'=>h'=G∧r=bv (l.all p)):=by
 refine z6 Tryz.func199 rfl rfl rfl ?_
 refine rn ?_;refine z7 rfl (w7 rfl hone rfl fun b3=> ?_)
 refine rn ?_;refine qv rfl rfl (y4 rfl rfl (y1.of_fun (zga l _ (fun a=> !p a) (.box b3 238 [fv]::G) (fun a ha=>y1.of_acall (fs:= []) (cs:= [pZ b3]) (zzi a fv (p a) b3 G (hp a ha))) hlen))) ?_
 refine rn ?_;exact zal rfl (.drop1 _ _ _) ⟨rfl,by simp only [←zhk p l];rfl⟩
theorem zn4 {full:Bool} (l:List Seen) (fv:AV) (p:Seen→Bool) (G:List Res) (hp:∀a∈l,y1 Tryz.prog fv [.agg (zav a)] G (fun r h'=>h'=G∧r=bv (p a))) (hlen:l.length≤4611686018427387904):y8 Tryz.prog 282 [.list full 3 (l.map zav),fv] G (fun r h'=>h'=G∧r=iv (zbh p 0 l)):=by
 refine z6 Tryz.func282 rfl rfl rfl ?_
 refine rn ?_;refine zab (fun k:Nat=>k≤l.length∧zbh p 0 l=zbh p k (l.drop k)) (fun k=>⟨[(8,iv k),(7,iv (l.map zav).length),(0,.list full 3 (l.map zav)),(1,fv)],G,[]⟩) (fun k=>l.length - k) 0 ⟨Nat.zero_le _,by simp⟩
  (v1 (.cons _ _ _ rfl (.cons _ _ _ rfl (.cons _ _ _ rfl (.cons _ _ _ rfl (.nil)))))) ?_
 rintro k ⟨hk,hnot⟩
 refine rn ?_;refine y0 rfl (fun hc9=> ?_) (fun hc9=> ?_)
 ·have hk2:k < l.length:=by simpa using hc9
  have hrow:(l.map zav)[k]? =some (zav l[k]):=by simp [hk2]
  have hd:=List.drop_eq_getElem_cons hk2
  refine rn ?_;refine qv rfl rfl (y4 rfl rfl (hp l[k] (by simp))) ?_
  refine rn ?_;refine y0 rfl (fun hc16=> ?_) (fun hc16=> ?_)
  ·refine rn ?_;exact zal rfl (.refl _ _) ⟨rfl,by rw [hnot,hd,zbh,if_pos hc16];rfl⟩
  ·refine rn ?_;exact ⟨k+1,⟨by omega,by rw [hnot,hd,zbh,if_neg (by simp [hc16])]⟩,(v1 (.cons _ _ _ rfl (.cons _ _ _ rfl (.cons _ _ _ rfl (.cons _ _ _ rfl (.nil)))))),by omega⟩
 ·have hk3:k=l.length:=by
   have:l.length≤k:=by simpa using hc9
   omega
  refine rn ?_;exact zal rfl (.refl _ _) ⟨rfl,by rw [hnot,hk3,List.drop_length,zbh];rfl⟩
theorem zdx {full:Bool} (l:List Seen) (fv:AV) (p:Seen→Bool) (G:List Res) (hp:∀a∈l,y1 Tryz.prog fv [.agg (zav a)] G (fun r h'=>h'=G∧r=bv (p a))) (hlen:l.length≤4611686018427387904):y8 Tryz.prog 269 [.list full 3 (l.map zav),fv] G (fun r h'=>h'=G∧r=bv (l.any p)):=by
 refine z6 Tryz.func269 rfl rfl rfl ?_
 refine rn ?_;refine qv rfl rfl (y4 rfl rfl (y1.of_fun (zn4 l _ p G hp hlen))) ?_
 refine rn ?_;exact zal rfl (.refl _ _) ⟨rfl,by simp only [←zdw p l 0];rfl⟩
theorem zvj (a:Seen) (fv:AV) (v:Bool) (b:Nat) (G:List Res) (hp:y1 Tryz.prog fv [.agg (zav a)] G (fun r h'=>h'=G∧r=bv v)):y8 Tryz.prog 270 [.agg (zav a),pZ b] (.box b 275 [fv]::G) (fun r h'=>h'= .box b 275 [fv]::G∧r=bv (!v)):=by
 refine z6 Tryz.func270 rfl rfl rfl ?_
 refine rn ?_;refine z7 rfl (w7 rfl rfl rfl fun b2=> ?_)
 refine rn ?_;refine qv rfl rfl (y4 rfl rfl (y1.quiet (R:=fun x=>x=bv v) (h2:= [_,_]) (List.perm_append_comm (l₁:= [_,_])) hp)) ?_
 refine rn ?_;exact zal rfl (.drop1 _ _ _) ⟨rfl,rfl⟩
theorem yhp {full:Bool} (l:List Seen) (fv:AV) (p:Seen→Bool) (G:List Res) (hone:fv.cellsOf=some [fv]) (hp:∀a∈l,y1 Tryz.prog fv [.agg (zav a)] G (fun r h'=>h'=G∧r=bv (p a))) (hlen:l.length≤4611686018427387904):y8 Tryz.prog 238 [.list full 3 (l.map zav),fv] G (fun r h'=>h'=G∧r=bv (l.all p)):=by
 refine z6 Tryz.func238 rfl rfl rfl ?_
 refine rn ?_;refine z7 rfl (w7 rfl hone rfl fun b3=> ?_)
 refine rn ?_;refine qv rfl rfl (y4 rfl rfl (y1.of_fun (zdx l _ (fun a=> !p a) (.box b3 275 [fv]::G) (fun a ha=>y1.of_acall (fs:= []) (cs:= [pZ b3]) (zvj a fv (p a) b3 G (hp a ha))) hlen))) ?_
 refine rn ?_;exact zal rfl (.drop1 _ _ _) ⟨rfl,by simp only [←zhk p l];rfl⟩
theorem yiz (e:Ev):y8 Tryz.prog 321 [.agg (evR e)] [] (fun r h'=>h'= []∧r=zgz (zdb e)):=by
 refine z6 Tryz.func321 rfl rfl rfl ?_
 refine rn ?_;refine z7 rfl (w7 rfl rfl rfl fun b1=> ?_)
 refine rn ?_;refine y0 rfl (fun hc5=> ?_) (fun hc5=> ?_)
 ·refine rn ?_;refine qv rfl rfl (w9 rfl rfl) ?_
  refine rn ?_;exact zal rfl (.trans (.drop [_] _ _) (.le Sb.unfull.le)) ⟨rfl,by rw [zdb,if_pos (by simpa using hc5)];rfl⟩
 ·refine rn ?_;refine rq 1 ?_
  exact ⟨rfl,by rw [zdb,if_neg (by simpa using hc5)];rfl⟩
theorem yfs (e:Ev) (bl bp:Nat) (h:Hist) (p:List Ev) (r1 r2 r3 r4 r5:Nat):y8 Tryz.prog 317 [.agg (evR e),pZ bp] (zch bl h p r1 r2 r3 r4 r5 [.box bp 247 [pZ bl]]) (fun r h'=>h'=(zch bl h p r1 r2 r3 r4 r5 [.box bp 247 [pZ bl]])∧r=bv (za5 1 e p)):=by
 refine z6 Tryz.func317 rfl rfl rfl ?_
 refine rn ?_;refine z7 rfl (w7 rfl rfl rfl fun b2=> ?_)
 refine rn ?_;refine j4 10 rfl ?_
 refine dq rfl rfl qrA ?_;refine dq rfl rfl qrA ?_;refine dq rfl rfl qrA ?_;refine dq rfl rfl qrA ?_;refine dq rfl rfl qrA ?_;refine dq rfl rfl qrA ?_;refine dq rfl rfl (za0 (enc:=intK) (k:=e.t) false rfl rfl) ?_
 refine rn ?_;refine rq 1 ?_
 exact ⟨rfl,congrArg bv (by rw [ycs];simp only [za5];cases zl0 p e.t <;> rfl)⟩
theorem ymo (e:Ev) (bl bp:Nat) (h:Hist) (p:List Ev) (r1 r2 r3 r4 r5:Nat):y8 Tryz.prog 318 [.agg (evR e),pZ bp] (zch bl h p r1 r2 r3 r4 r5 [.box bp 247 [pZ bl]]) (fun r h'=>h'=(zch bl h p r1 r2 r3 r4 r5 [.box bp 247 [pZ bl]])∧r=bv (za5 2 e p)):=by
 refine z6 Tryz.func318 rfl rfl rfl ?_
 refine rn ?_;refine z7 rfl (w7 rfl rfl rfl fun b2=> ?_)
 refine rn ?_;refine j4 6 rfl ?_
 refine rn2 ?_;refine qq rfl rfl (za0 (enc:=intK) (k:=e.t) false rfl rfl) ?_
 refine rn ?_;refine rq 1 ?_
 exact ⟨rfl,congrArg bv (by rw [ya7];simp only [za5];cases zxg p e.t <;> rfl)⟩
theorem yfr (e:Ev) (bl bp:Nat) (h:Hist) (p:List Ev) (r1 r2 r3 r4 r5:Nat) (hl:p.length≤1000000):y8 Tryz.prog 319 [.agg (evR e),pZ bp] (zch bl h p r1 r2 r3 r4 r5 [.box bp 247 [pZ bl]]) (fun r h'=>h'=(zch bl h p r1 r2 r3 r4 r5 [.box bp 247 [pZ bl]])∧r=bv (za5 3 e p)):=by
 refine z6 Tryz.func319 rfl rfl rfl ?_
 have hw:=zko p e.t e.o
 refine rn ?_;refine z7 rfl (w7 rfl rfl rfl fun b2=> ?_)
 refine rn ?_;refine j4 18 rfl ?_
 refine rn ?_;refine zcu (fun hg1_3=> ?_) (fun hg1_3=> ?_)
 ·refine dq rfl rfl qrA ?_;refine dq rfl rfl qrA ?_;refine dq rfl rfl qrA ?_;refine dq rfl rfl qrA ?_;refine dq rfl rfl qrA ?_;refine dq rfl rfl qrA ?_;refine dq rfl rfl qrA ?_;refine dq rfl rfl qrA ?_;refine dq rfl rfl qrA ?_;refine dq rfl rfl qrA ?_;refine dq rfl rfl qrA ?_;refine dq rfl rfl (u9 (out:= [iv e.t,iv e.o]) rfl (by rfl)) ?_
  refine dq rfl rfl (za0 (enc:=zan) (k:=(e.t,e.o)) 0 rfl rfl) ?_
  refine dq rfl rfl (zfe rfl rfl rfl (by rw [zj0];omega)) ?_
  refine rn ?_;refine rq 1 ?_
  exact ⟨rfl,congrArg bv (by simp only [za5];rw [←zj0];simp_all [bne])⟩
 ·refine rn ?_;refine rq 1 ?_
  exact ⟨rfl,congrArg bv (by simp only [za5];rw [←zj0];simp_all [bne])⟩
theorem zus (s:Seen) (bl bp:Nat) (h:Hist) (p:List Ev) (r1 r2 r3 r4 r5:Nat):y8 Tryz.prog 322 [.agg (zav s),pZ bp] (zch bl h p r1 r2 r3 r4 r5 [.box bp 247 [pZ bl]]) (fun r h'=>h'=(zch bl h p r1 r2 r3 r4 r5 [.box bp 247 [pZ bl]])∧r=bv (decide (s.v.k > 0) && !zkv p s.o s.v)):=by
 refine z6 Tryz.func322 rfl rfl rfl ?_
 refine rn ?_;refine z7 rfl (w7 rfl rfl rfl fun b2=> ?_)
 refine rn ?_;refine j4 14 rfl ?_
 refine rn ?_;refine zcu (fun hg1_4=> ?_) (fun hg1_4=> ?_)
 ·refine dq rfl rfl qrA ?_;refine dq rfl rfl qrA ?_;refine dq rfl rfl qrA ?_;refine dq rfl rfl qrA ?_;refine dq rfl rfl qrA ?_;refine dq rfl rfl qrA ?_;refine dq rfl rfl qrA ?_;refine dq rfl rfl qrA ?_;refine dq rfl rfl (u9 (out:= [iv s.o,iv s.v.t,iv s.v.k]) rfl (by rfl)) ?_
  refine rn2 ?_;refine qq rfl rfl (za0 (enc:=zb4) (k:=(s.o,s.v.t,s.v.k)) false rfl rfl) ?_
  refine rn ?_;refine rq 1 ?_
  exact ⟨rfl,congrArg bv (by first|(rw [zst];cases zkv p s.o s.v <;> simp_all;done)|(simp_all;done)|(simp_all <;> (intros;omega)))⟩
 ·refine rn ?_;refine rq 1 ?_
  exact ⟨rfl,congrArg bv (by first|(rw [zst];cases zkv p s.o s.v <;> simp_all;done)|(simp_all;done)|(simp_all <;> (intros;omega)))⟩
theorem zw2 (e:Ev) (bl bp:Nat) (h:Hist) (p:List Ev) (r1 r2 r3 r4 r5:Nat) (hl:e.scan.length≤4611686018427387904):y8 Tryz.prog 320 [.agg (evR e),pZ bp] (zch bl h p r1 r2 r3 r4 r5 [.box bp 247 [pZ bl]]) (fun r h'=>h'=(zch bl h p r1 r2 r3 r4 r5 [.box bp 247 [pZ bl]])∧r=bv (za5 4 e p)):=by
 refine z6 Tryz.func320 rfl rfl rfl ?_
 refine rn ?_;refine z7 rfl (w7 rfl rfl rfl fun b2=> ?_)
 refine rn ?_;refine qv rfl rfl (y4 rfl rfl (zax (yiz _) (Sbs.refl _))) ?_
 refine rn ?_;refine qv rfl rfl (y4 rfl rfl (y1.quiet (R:=fun r=>r=bv _) (h2:= [_]) (List.perm_append_comm (l₁:= [_])) (y1.of_fun (zdx (zdb e) _ _ (zch bl h p r1 r2 r3 r4 r5 [.box bp 247 [pZ bl]]) (fun s _=>y1.of_acall (fs:= []) (cs:= [pZ bp]) (zus s bl bp h p r1 r2 r3 r4 r5)) (zmk hl))))) ?_
 refine rn ?_;refine rq 1 ?_
 exact ⟨rfl,rfl⟩
theorem yi1 (s:Seen) (e:Ev) (be:Nat) (bl bp:Nat) (h:Hist) (p:List Ev) (r1 r2 r3 r4 r5:Nat):y8 Tryz.prog 324 [.agg (zav s),pZ bp,pZ be] (.box be 60 (evR e)::(zch bl h p r1 r2 r3 r4 r5 [.box bp 247 [pZ bl]])) (fun r h'=>h'=(.box be 60 (evR e)::(zch bl h p r1 r2 r3 r4 r5 [.box bp 247 [pZ bl]]))∧r=bv (match zro p e.t s.o with|some v=>v !=s.v|none=>false)):=by
 refine z6 Tryz.func324 rfl rfl rfl ?_
 refine rn ?_;refine z7 rfl (w7 rfl rfl rfl fun b3=> ?_)
 refine rn0 ?_;refine w8 ?_;refine zgs 15 [13,14] [] (fun he=>he= .box b3 70 (zav s)::(.box be 60 (evR e)::(zch bl h p r1 r2 r3 r4 r5 [.box bp 247 [pZ bl]]))∨∃b c,he= .box b 57 c:: .box b3 70 (zav s)::(.box be 60 (evR e)::(zch bl h p r1 r2 r3 r4 r5 [.box bp 247 [pZ bl]]))) rfl rfl (.inl rfl) ?_
 refine jq rfl (fun he hC=>by rcases hC with rfl|⟨b,c,rfl⟩ <;> exact qrA) ?_
 refine jq rfl (fun he hC=>by rcases hC with rfl|⟨b,c,rfl⟩ <;> exact qrA) ?_
 refine jq rfl (fun he hC=>by rcases hC with rfl|⟨b,c,rfl⟩ <;> exact qrA) ?_
 refine jq rfl (fun he hC=>by rcases hC with rfl|⟨b,c,rfl⟩ <;> exact qrA) ?_
 refine jq rfl (fun he hC=>by rcases hC with rfl|⟨b,c,rfl⟩ <;> exact qrA) ?_
 refine jq rfl (fun he hC=>by rcases hC with rfl|⟨b,c,rfl⟩ <;> exact qrA) ?_
 refine jq rfl (fun he hC=>by rcases hC with rfl|⟨b,c,rfl⟩ <;> exact qrA) ?_
 refine jq rfl (fun he hC=>by rcases hC with rfl|⟨b,c,rfl⟩ <;> exact qrA) ?_
 refine jq rfl (fun he hC=>by rcases hC with rfl|⟨b,c,rfl⟩ <;> exact (by exact u9 (out:= [iv e.t,iv s.o]) rfl (by rfl))) ?_
 refine jq rfl (fun he hC=>by rcases hC with rfl|⟨b,c,rfl⟩ <;> exact (by exact zd6 (enc:=zan) (k:=(e.t,s.o)) (⟨0,0⟩:Ver) rfl rfl rfl)) ?_
 refine jq rfl (fun he hC=>by rcases hC with rfl|⟨b,c,rfl⟩ <;> exact qrA) ?_
 refine jq rfl (fun he hC=>by rcases hC with rfl|⟨b,c,rfl⟩ <;> exact qrA) ?_
 refine jq rfl (fun he hC=>by rcases hC with rfl|⟨b,c,rfl⟩ <;> exact qrA) ?_
 refine je rfl ?_;refine je rfl ?_;refine yb0 ?_;refine jce rfl fun u=> ?_
 refine y7 rfl fun b5=>⟨_,_,rfl,.inr ⟨_,_,rfl⟩,?_⟩
 refine jce rfl fun u=> ?_
 refine u5 rfl rfl rfl ⟨.any,_,rfl,.inr ⟨_,_,rfl⟩,?_⟩
 refine jcn ?_;refine ln ?_;refine rn ?_;refine u0 (fun hg2_1=> ?_) (fun hg2_1=> ?_)
 ·refine rn ?_;refine rq 2 ?_
  exact ⟨rfl,congrArg bv (by rw [zke] at hg2_1;(try rw [zke]);cases hv:zro p e.t s.o <;> simp_all [yac,bne,zv3])⟩
 ·refine rn ?_;refine rq 2 ?_
  exact ⟨rfl,congrArg bv (by rw [zke] at hg2_1;(try rw [zke]);cases hv:zro p e.t s.o <;> simp_all [yac,bne,zv3])⟩
theorem ymk (e:Ev) (bl bp:Nat) (h:Hist) (p:List Ev) (r1 r2 r3 r4 r5:Nat) (hl:e.scan.length≤4611686018427387904):y8 Tryz.prog 323 [.agg (evR e),pZ bp] (zch bl h p r1 r2 r3 r4 r5 [.box bp 247 [pZ bl]]) (fun r h'=>h'=(zch bl h p r1 r2 r3 r4 r5 [.box bp 247 [pZ bl]])∧r=bv (za5 5 e p)):=by
 refine z6 Tryz.func323 rfl rfl rfl ?_
 refine rn ?_;refine z7 rfl (w7 rfl rfl rfl fun b2=> ?_)
 refine rn ?_;refine qv rfl rfl (y4 rfl rfl (zax (yiz _) (Sbs.refl _))) ?_
 refine rn ?_;refine qv rfl rfl (y4 rfl rfl (y1.of_fun (zdx (zdb e) _ _ (.box b2 60 (evR e)::(zch bl h p r1 r2 r3 r4 r5 [.box bp 247 [pZ bl]])) (fun s _=>y1.of_acall (fs:= []) (cs:= [pZ bp,pZ b2]) (yi1 s e b2 bl bp h p r1 r2 r3 r4 r5)) (zmk hl)))) ?_
 refine rn ?_;refine rq 1 ?_
 exact ⟨rfl,rfl⟩
theorem yi0 (e:Ev) (hl:e.scan.length≤4611686018427387904):y8 Tryz.prog 325 [.agg (evR e)] [] (fun r h'=>h'= []∧r=bv (za5 6 e [])):=by
 refine z6 Tryz.func325 rfl rfl rfl ?_
 refine rn ?_;refine z7 rfl (w7 rfl rfl rfl fun b1=> ?_)
 refine rn ?_;refine zif ?_;refine rn ?_;refine z7 rfl (zac (enc:=intK) rfl fun b6=> ?_)
 refine rn ?_;refine zby e.scan.length (fun k=>((e.scan.take k).map Seen.o).Nodup) (fun k=>⟨[(10,iv k),(1,pZ b1),(3,.v (.map (some b6))),(8,zgz e.scan),(9,iv (e.scan.map zav).length)],[.map b6 (j9 intK (zau bv (ztd (e.scan.take k)))),.box b1 60 (evR e)],[]⟩) (by simp) es ?_
 intro k lk nk
 refine rn ?_;refine y0 rfl (fun hc11=> ?_) (fun hc11=> ?_)
 ·have hk:=zde hc11
  have rk:=zbn (f:=zav) hk
  refine rn ?_;refine z7 rfl (y7 rfl fun b5=> ?_)
  first|refine z7 rfl (u5 rfl rfl rfl ?_)|refine z7 rfl (zaf rfl rfl rfl rfl (Nat.le_of_ble_eq_true rfl) ?_)
  refine v8 (zak ?_)
  refine w8 ?_;refine w8 (y6 ?_)
  refine q1 ?_;refine q1 ?_;refine q1 ?_;refine qq rfl rfl (za0 (enc:=intK) (k:=e.scan[k].o) false rfl rfl) ?_
  refine rn ?_;refine y0 rfl (fun hc17=> ?_) (fun hc17=> ?_)
  ·refine zjb ?_;refine zim ?_;refine ziy rfl ?_;refine zim ?_;refine zim ?_;refine zd8 ?_;refine zak ?_;refine w8 (y6 ?_)
   refine q1 ?_;refine qq rfl rfl (zmr (enc:=intK) rfl) ?_
   refine rn ?_;refine ⟨fun l h=>(by cases h),?_⟩
   first|(refine rq 3 ?_;exact ⟨rfl,congrArg bv (ydb hk nk (by simpa using hc17))⟩)|(refine rq 2 ?_;exact ⟨rfl,congrArg bv (ydd nk)⟩)
  ·have hx:=yjr (by simpa using hc17)
   refine rn ?_;refine z7 rfl (j8 (g:=bv) (enc:=intK) (k:=e.scan[k].o) (v:=true) rfl rfl rfl ?_)
   refine rn ?_;exact ⟨hk,ybj hk nk hx,by rw [zxq hk];exact eA⟩
 ·have qk:=zdg hc11 lk
  subst qk
  refine zjb ?_;refine zim ?_;refine zim ?_;refine zd8 ?_;refine zak ?_;refine w8 (y6 ?_)
  refine q1 ?_;refine qq rfl rfl (zmr (enc:=intK) rfl) ?_
  refine rn ?_;refine ⟨fun l h=>(by cases h),?_⟩
  first|(refine rq 3 ?_;exact ⟨rfl,congrArg bv (ydb hk nk (by simpa using hc17))⟩)|(refine rq 2 ?_;exact ⟨rfl,congrArg bv (ydd nk)⟩)
end Go.Proofs
namespace Go.Ab
open Go
def isM (i:Nat):Bool:=Nat.blt i 10
def mkE (L:List Nat) (ρ:Nat→Nat):Fr:=(L.filter isM).map fun i=>(i+6,.v (.map (some (ρ i))))
def mkH (L:List Nat) (ρ:Nat→Nat):List Res:=(L.filter isM).map fun i=> .map (ρ i) []
def cel (L:List Nat) (ρ:Nat→Nat) (s m:Nat):AV:=if s∈L then .v (.map (some (ρ m))) else .v (.map none)
def zqd (L:List Nat) (ρ:Nat→Nat):List AV:= [cel L ρ 12 5,cel L ρ 15 6,cel L ρ 18 7,cel L ρ 21 8,.v (.map none)]
def eff5:List Nat:= [5,6,7,8,9,12,15,18,21]
def J5 (bl:Nat) (T:TypeId) (c0:List AV) (R:List Res) (L:List Nat) (ee:Fr) (he:List Res):Prop:=
 L.Nodup∧(∀i∈L,i∈eff5)∧((12∈L→5∈L)∧(15∈L→6∈L)∧(18∈L→7∈L)∧(21∈L→8∈L))∧∃ρ,ee=mkE L ρ∧he=mkH L ρ++ .box bl T (c0++zqd L ρ)::R
theorem J5.start {bl:Nat} {T:TypeId} {c0:List AV} {R:List Res}:J5 bl T c0 R [] [] (.box bl T (c0++ [.v (.map none),.v (.map none),.v (.map none),.v (.map none),.v (.map none)])::R):=
 ⟨.nil,fun i h=>by simp at h,⟨fun h=>by simp at h,fun h=>by simp at h,fun h=>by simp at h,fun h=>by simp at h⟩,fun _=>0,rfl,by simp [mkH,zqd,cel]⟩
theorem ybi {L:List Nat} {ρ ρ':Nat→Nat} (h:∀i∈L,ρ i=ρ' i):mkE L ρ=mkE L ρ'∧mkH L ρ=mkH L ρ':=
 ⟨List.map_congr_left fun i hi=>by rw [h i (List.mem_filter.1 hi).1],List.map_congr_left fun i hi=>by rw [h i (List.mem_filter.1 hi).1]⟩
theorem J5.make {bl:Nat} {T:TypeId} {c0:List AV} {R:List Res} {L:List Nat} {ee:Fr} {he:List Res} {i:Nat} (h:J5 bl T c0 R L ee he) (hi:i ∉ L) (hm:isM i=true) (hie:i∈eff5) (r:Nat):J5 bl T c0 R (i::L) ((i+6,.v (.map (some r)))::ee) (.map r []::he):=by
 obtain ⟨h1,h2,⟨p1,p2,p3,p4⟩,ρ,rfl,rfl⟩:=h
 have hlt:i < 10:=Nat.le_of_ble_eq_true hm
 have hne:∀j∈L,ρ j=(fun j=>if j=i then r else ρ j) j:=fun j hj=>by
  have:j≠i:=fun e=>hi (e ▸ hj)
  simp [this]
 obtain ⟨e1,e2⟩:=ybi hne
 refine ⟨List.nodup_cons.2 ⟨hi,h1⟩,fun j hj=>(List.mem_cons.1 hj).elim (fun e=>e ▸ hie) (h2 j),⟨?_,?_,?_,?_⟩,fun j=>if j=i then r else ρ j,?_,?_⟩
 iterate 4 (· intro hx;rcases List.mem_cons.1 hx with e|hx;omega;first|exact List.mem_cons_of_mem _ (p1 hx)|exact List.mem_cons_of_mem _ (p2 hx)|exact List.mem_cons_of_mem _ (p3 hx)|exact List.mem_cons_of_mem _ (p4 hx))
 ·rw [e1];simp [mkE,List.filter_cons,hm]
 ·have hc:∀s m,10≤s→(s∈L→m∈L)→cel L ρ s m=cel (i::L) (fun j=>if j=i then r else ρ j) s m:=fun s m hs hsm=>by
   unfold cel
   by_cases hx:s∈L
   ·rw [if_pos hx,if_pos (List.mem_cons_of_mem _ hx),←hne m (hsm hx)]
   ·rw [if_neg hx,if_neg (fun q=>(List.mem_cons.1 q).elim (by omega) hx)]
  rw [e2]
  have:zqd L ρ=zqd (i::L) (fun j=>if j=i then r else ρ j):=by
   unfold zqd
   rw [hc 12 5 (by omega) p1,hc 15 6 (by omega) p2,hc 18 7 (by omega) p3,hc 21 8 (by omega) p4]
  rw [this];simp [mkH,List.filter_cons,hm]
theorem zhf {ρ:Nat→Nat} {m:Nat} (hm:isM m=true):∀{L:List Nat},m∈L→lk (mkE L ρ) (m+6)=some (.v (.map (some (ρ m))))
 | [],h=>by simp at h
 |j::L,h=>by
  unfold mkE
  rw [List.filter_cons]
  by_cases hj:isM j=true
  ·rw [if_pos hj,List.map_cons,lk]
   by_cases e:j=m
   ·subst e;simp
   ·have:Nat.beq (j+6) (m+6)=false:=by
     cases hb:Nat.beq (j+6) (m+6) with
     |false=>rfl
     |true=>have:=Nat.eq_of_beq_eq_true hb;omega
    rw [this]
    exact zhf hm ((List.mem_cons.1 h).resolve_left (fun q=>e q.symm))
  ·rw [if_neg hj]
   refine zhf hm ((List.mem_cons.1 h).resolve_left (fun q=>hj (q ▸ hm)))
theorem zj9 {ρ:Nat→Nat} {d:Nat} (hd:d < 6):∀{L:List Nat},lk (mkE L ρ) d=none
 | []=>rfl
 |j::L=>by
  unfold mkE
  rw [List.filter_cons]
  split
  ·rw [List.map_cons,lk]
   have:Nat.beq (j+6) d=false:=by
    cases hb:Nat.beq (j+6) d with
    |false=>rfl
    |true=>have:=Nat.eq_of_beq_eq_true hb;omega
   rw [this];exact zj9 hd
  ·exact zj9 hd
theorem yjy {E ee t:Fr} {d:Nat} {a:AV} (h1:lk E d=none) (h2:lk ee d=none) (h3:lk t d=some a):lk ((E++ee)++t) d=some a:=by
 rw [u4,u4,h1];simp only;rw [h2];exact h3
theorem ym2 {E ee t:Fr} {d:Nat} {a:AV} (h1:lk E d=none) (h2:lk ee d=some a):lk ((E++ee)++t) d=some a:=by
 rw [u4,u4,h1];simp only;rw [h2]
theorem ybt {A ee B:Fr} {ds:List Tmp} {d:Nat} {a:AV} (h1:lk A d=none) (h2:ds.any (Nat.beq d)=true) (h3:lk ee d=some a):lk (A++(zfn ds ee++B)) d=some a:=by
 rw [u4,h1]
 simp only
 rw [u4,zfn,zdc (q:=fun d=>ds.any (Nat.beq d)) h2,h3]
section
variable {bl:Nat} {T:TypeId} {c0:List AV} {R:List Res} {L:List Nat} {ρ:Nat→Nat}
theorem ylz:HasBox (mkH L ρ++ .box bl T (c0++zqd L ρ)::R) bl (mkH L ρ).length T (c0++zqd L ρ):=⟨by simp⟩
theorem ylq (x:Res):SetAt (mkH L ρ++ .box bl T (c0++zqd L ρ)::R) (mkH L ρ).length x (mkH L ρ++x::R):=⟨by simp⟩
theorem J5.put {s m:Nat} {cs':List AV} (h:J5 bl T c0 R L (mkE L ρ) (mkH L ρ++ .box bl T (c0++zqd L ρ)::R)) (hs:s ∉ L) (hse:s∈eff5) (hsm:isM s=false) (hmL:(s,m)∈ [(12,5),(15,6),(18,7),(21,8)]) (hm:m∈L)
 (hc:cs'=c0++(zqd L ρ).set ((m - 5)) (.v (.map (some (ρ m))))):J5 bl T c0 R (s::L) (mkE L ρ) (mkH L ρ++ .box bl T cs'::R):=by
 obtain ⟨h1,h2,⟨p1,p2,p3,p4⟩,_⟩:=h
 refine ⟨List.nodup_cons.2 ⟨hs,h1⟩,fun j hj=>(List.mem_cons.1 hj).elim (fun e=>e ▸ hse) (h2 j),⟨fun q=> ?_,fun q=> ?_,fun q=> ?_,fun q=> ?_⟩,ρ,?_,?_⟩
 iterate 4 (· rcases List.mem_cons.1 q with e|q;(subst e;simp at hmL;subst hmL;exact List.mem_cons_of_mem _ hm);first|exact List.mem_cons_of_mem _ (p1 q)|exact List.mem_cons_of_mem _ (p2 q)|exact List.mem_cons_of_mem _ (p3 q)|exact List.mem_cons_of_mem _ (p4 q))
 ·simp [mkE,List.filter_cons,hsm]
 ·have e1:mkH (s::L) ρ=mkH L ρ:=by simp [mkH,List.filter_cons,hsm]
  rw [e1,hc]
  have:(zqd L ρ).set (m - 5) (.v (.map (some (ρ m))))=zqd (s::L) ρ:=by
   simp only [List.mem_cons,Prod.mk.injEq,List.not_mem_nil,or_false] at hmL
   rcases hmL with ⟨rfl,rfl⟩|⟨rfl,rfl⟩|⟨rfl,rfl⟩|⟨rfl,rfl⟩ <;> simp [zqd,cel]
  rw [this]
theorem J5.last (h:J5 bl T c0 R L (mkE L ρ) (mkH L ρ++ .box bl T (c0++zqd L ρ)::R)) (ha:∀i,i∈eff5→i∈L):
 (mkH L ρ++ .box bl T (c0++zqd L ρ)::R).Perm (.box bl T (c0++ [.v (.map (some (ρ 5))),.v (.map (some (ρ 6))),.v (.map (some (ρ 7))),.v (.map (some (ρ 8))),.v (.map none)]):: .map (ρ 5) []:: .map (ρ 6) []:: .map (ρ 7) []:: .map (ρ 8) []:: .map (ρ 9) []::R):=by
 have hp:(L.filter isM).Perm [5,6,7,8,9]:=by
  rw [List.perm_ext_iff_of_nodup (h.1.filter _) (by decide)]
  intro a
  rw [List.mem_filter]
  constructor
  ·rintro ⟨q1,q2⟩
   have:=h.2.1 a q1
   have q3:a < 10:=Nat.le_of_ble_eq_true q2
   simp [eff5] at this ⊢;omega
  ·intro q
   have:a∈eff5:=by simp [eff5] at q ⊢;omega
   refine ⟨ha a this,?_⟩
   simp at q;rcases q with rfl|rfl|rfl|rfl|rfl <;> rfl
 have hcs:zqd L ρ= [.v (.map (some (ρ 5))),.v (.map (some (ρ 6))),.v (.map (some (ρ 7))),.v (.map (some (ρ 8))),.v (.map none)]:=by
  simp [zqd,cel,ha 12 (by simp [eff5]),ha 15 (by simp [eff5]),ha 18 (by simp [eff5]),ha 21 (by simp [eff5])]
 rw [hcs]
 have:=hp.map (fun i=>Res.map (ρ i) [])
 exact (this.append_right _).trans (List.perm_middle (l₁:= [Res.map (ρ 5) [],Res.map (ρ 6) [],Res.map (ρ 7) [],Res.map (ρ 8) [],Res.map (ρ 9) []]))
end
end Go.Ab
set_option maxRecDepth 10000
namespace Go.Proofs
open Go Go.Ab
attribute [local irreducible] QR QV OE zb5 aw zce zcn za2 zbr thn zd9 zcl jch zd7
open Go.H
theorem yaz (h:Hist) (la:h.evs.length≤1000000) (y:AV) (bl b1:Nat) (w:Nat→Ev→Bool) (I F:Nat→List Res) (hy:∀k (hk:k < h.evs.length) r1 r2 r3 r4 r5,y1 Tryz.prog y [iv k,.agg (evR h.evs[k])] (zch bl h (h.evs.take k) r1 r2 r3 r4 r5 (.box b1 247 [pZ bl]::I k)) (fun r h'=>r=bv (!w k h.evs[k])∧h'=zch bl h (h.evs.take k) r1 r2 r3 r4 r5 (.box b1 247 [pZ bl]::bif w k h.evs[k] then F k else I (k+1)))):y8 Tryz.prog 343 [y,pZ b1] (.box bl 252 (zbq h):: .box b1 247 [pZ bl]::I 0) (fun r h'=>h'=match zcx w 0 h.evs with|some k=>F k|none=>I h.evs.length):=by
 refine z6 Tryz.func343 rfl rfl rfl ?_
 refine w8 ?_;refine zt5 22 eff5 [] (fun he=>HasB he b1 247 [pZ bl]) rfl ?_
 refine jq rfl (fun he hC=>by haveI:=hC;exact qrA) ?_
 refine jq rfl (fun he hC=>by haveI:=hC;exact qrA) ?_
 refine jq rfl (fun he hC=>by haveI:=hC;exact qrA) ?_
 refine jq rfl (fun he hC=>by haveI:=hC;exact qrA) ?_
 refine jq rfl (fun he hC=>by haveI:=hC;exact qrA) ?_
 refine je rfl ?_;refine je rfl ?_;refine je rfl ?_;refine je rfl ?_;refine je rfl ?_;refine jq rfl (fun he hC=>by haveI:=hC;exact qrA) ?_
 refine jq rfl (fun he hC=>by haveI:=hC;exact qrA) ?_
 refine je rfl ?_;refine jq rfl (fun he hC=>by haveI:=hC;exact qrA) ?_
 refine jq rfl (fun he hC=>by haveI:=hC;exact qrA) ?_
 refine je rfl ?_;refine jq rfl (fun he hC=>by haveI:=hC;exact qrA) ?_
 refine jq rfl (fun he hC=>by haveI:=hC;exact qrA) ?_
 refine je rfl ?_;refine jq rfl (fun he hC=>by haveI:=hC;exact qrA) ?_
 refine jq rfl (fun he hC=>by haveI:=hC;exact qrA) ?_
 refine je rfl ?_;refine yb0 ?_;refine ⟨J5 bl 252 (y9 h) (.box b1 247 [pZ bl]::I 0),.start,fun L ee he hJ=> ?_,fun L ee he hJ i o hie hiL ho hpre u=> ?_,fun L ee he hJ hall=> ?_⟩
 ·obtain ⟨_,_,_,ρ,_,rfl⟩:=hJ
  exact ⟨.inl (by simp)⟩
 ·simp only [eff5,List.mem_cons,List.not_mem_nil,or_false] at hie
  rcases hie with rfl|rfl|rfl|rfl|rfl|rfl|rfl|rfl|rfl
  ·obtain rfl:=Option.some.inj ho
   exact zac (enc:=intK) rfl fun r=>⟨_,_,rfl,hJ.make hiL rfl (by decide) r⟩
  ·obtain rfl:=Option.some.inj ho
   exact zac (enc:=intK) rfl fun r=>⟨_,_,rfl,hJ.make hiL rfl (by decide) r⟩
  ·obtain rfl:=Option.some.inj ho
   exact zac (enc:=intK) rfl fun r=>⟨_,_,rfl,hJ.make hiL rfl (by decide) r⟩
  ·obtain rfl:=Option.some.inj ho
   exact zac (enc:=intK) rfl fun r=>⟨_,_,rfl,hJ.make hiL rfl (by decide) r⟩
  ·obtain rfl:=Option.some.inj ho
   exact zac (enc:=intK) rfl fun r=>⟨_,_,rfl,hJ.make hiL rfl (by decide) r⟩
  ·obtain rfl:=Option.some.inj ho
   have hJ2:=hJ
   obtain ⟨_,_,_,ρ,rfl,rfl⟩:=hJ2
   have hm:5∈L:=hpre 5 (mem?_iff.1 rfl) (by decide)
   haveI:=ylz (bl:=bl) (T:=252) (c0:=y9 h) (R:=(.box b1 247 [pZ bl]::I 0)) (L:=L) (ρ:=ρ)
   haveI:=fun x=>ylq (bl:=bl) (T:=252) (c0:=y9 h) (R:=(.box b1 247 [pZ bl]::I 0)) (L:=L) (ρ:=ρ) x
   exact zaf (b:=bl) (off:=8) (n:=1) rfl (ybt rfl rfl (zhf rfl hm)) rfl rfl (Nat.le_of_ble_eq_true rfl) ⟨.any,_,rfl,hJ.put hiL (by decide) rfl (by decide) hm rfl⟩
  ·obtain rfl:=Option.some.inj ho
   have hJ2:=hJ
   obtain ⟨_,_,_,ρ,rfl,rfl⟩:=hJ2
   have hm:6∈L:=hpre 6 (mem?_iff.1 rfl) (by decide)
   haveI:=ylz (bl:=bl) (T:=252) (c0:=y9 h) (R:=(.box b1 247 [pZ bl]::I 0)) (L:=L) (ρ:=ρ)
   haveI:=fun x=>ylq (bl:=bl) (T:=252) (c0:=y9 h) (R:=(.box b1 247 [pZ bl]::I 0)) (L:=L) (ρ:=ρ) x
   exact zaf (b:=bl) (off:=9) (n:=1) rfl (ybt rfl rfl (zhf rfl hm)) rfl rfl (Nat.le_of_ble_eq_true rfl) ⟨.any,_,rfl,hJ.put hiL (by decide) rfl (by decide) hm rfl⟩
  ·obtain rfl:=Option.some.inj ho
   have hJ2:=hJ
   obtain ⟨_,_,_,ρ,rfl,rfl⟩:=hJ2
   have hm:7∈L:=hpre 7 (mem?_iff.1 rfl) (by decide)
   haveI:=ylz (bl:=bl) (T:=252) (c0:=y9 h) (R:=(.box b1 247 [pZ bl]::I 0)) (L:=L) (ρ:=ρ)
   haveI:=fun x=>ylq (bl:=bl) (T:=252) (c0:=y9 h) (R:=(.box b1 247 [pZ bl]::I 0)) (L:=L) (ρ:=ρ) x
   exact zaf (b:=bl) (off:=10) (n:=1) rfl (ybt rfl rfl (zhf rfl hm)) rfl rfl (Nat.le_of_ble_eq_true rfl) ⟨.any,_,rfl,hJ.put hiL (by decide) rfl (by decide) hm rfl⟩
  ·obtain rfl:=Option.some.inj ho
   have hJ2:=hJ
   obtain ⟨_,_,_,ρ,rfl,rfl⟩:=hJ2
   have hm:8∈L:=hpre 8 (mem?_iff.1 rfl) (by decide)
   haveI:=ylz (bl:=bl) (T:=252) (c0:=y9 h) (R:=(.box b1 247 [pZ bl]::I 0)) (L:=L) (ρ:=ρ)
   haveI:=fun x=>ylq (bl:=bl) (T:=252) (c0:=y9 h) (R:=(.box b1 247 [pZ bl]::I 0)) (L:=L) (ρ:=ρ) x
   exact zaf (b:=bl) (off:=11) (n:=1) rfl (ybt rfl rfl (zhf rfl hm)) rfl rfl (Nat.le_of_ble_eq_true rfl) ⟨.any,_,rfl,hJ.put hiL (by decide) rfl (by decide) hm rfl⟩
 have hJ2:=hJ
 obtain ⟨_,_,_,ρ,rfl,rfl⟩:=hJ2
 have hal:∀i,i∈eff5→i∈L:=fun i hi=>hall i hi (by simp [eff5] at hi;omega)
 refine ln ?_;refine zgt (s':=⟨[(0,y),(1,pZ b1),(10,pZ bl),(15,mpv (ρ 9))],.box bl 252 (y9 h++ [mpv (ρ 5),mpv (ρ 6),mpv (ρ 7),mpv (ρ 8),nmp]):: .map (ρ 5) []:: .map (ρ 6) []:: .map (ρ 7) []:: .map (ρ 8) []:: .map (ρ 9) []::(.box b1 247 [pZ bl]::I 0),[]⟩) (v6 (zas (hJ.last hal)) (v1 (.cons _ _ _ (yjy rfl (zj9 (by decide)) rfl) (.cons _ _ _ (yjy rfl (zj9 (by decide)) rfl) (.cons _ _ _ rfl (.cons _ _ _ (ym2 rfl (zhf (m:=9) rfl (hal 9 (by decide)))) .nil)))))) ?_
 generalize ρ 5=r1
 generalize ρ 6=r2
 generalize ρ 7=r3
 generalize ρ 8=r4
 generalize ρ 9=r5
 refine rn ?_;refine zby h.evs.length (fun k=>zcx w 0 h.evs=zcx w k (h.evs.drop k)) (fun k=>⟨[(32,iv k),(0,y),(1,pZ b1),(30,zyn h.evs),(31,iv (h.evs.map evR).length)],(zch bl h (h.evs.take k) r1 r2 r3 r4 r5 (.box b1 247 [pZ bl]::I k)),[]⟩) (by simp) es ?_
 intro k lk zk
 have hwl:=fun e:Ev=>zko (h.evs.take k) e.t e.o
 have hle:(h.evs.take k).length≤h.evs.length:=by simp;omega
 refine rn ?_;refine y0 rfl (fun hc33=> ?_) (fun hc33=> ?_)
 ·have hk:=zde hc33
  have rk:=zbn (f:=evR) hk
  refine rn ?_;refine z7 rfl (y7 rfl fun b4=> ?_)
  refine rn ?_;refine z7 rfl (q7 rfl rfl (y1.fr1 (hy k hk r1 r2 r3 r4 r5)) rfl ?_)
  rintro _ _ ⟨_,rfl,rfl,rfl⟩
  refine rn ?_;refine y0 rfl (fun hc41=> ?_) (fun hc41=> ?_)
  ·have hw:w k h.evs[k]=true:=by simpa using hc41
   rw [hw]
   refine rn ?_;exact zdt .nil (.drop [_,_,_,_,_,_,_,_] _ _) (by rw [zfw hk zk hw])
  ·have hw:w k h.evs[k]=false:=by simpa using hc41
   rw [hw]
   refine rn ?_;refine y0 rfl (fun hc44=> ?_) (fun hc44=> ?_)
   ·refine j4 6 rfl ?_
    refine rn ?_;refine z7 rfl (j8 (g:=bv) (enc:=intK) (k:=h.evs[k].t) (v:=true) rfl rfl rfl ?_)
    refine rn ?_;have et:=List.take_succ_eq_append_getElem hk
    exact ⟨hk,zc2 hk zk hw,by rw [et];simp only [zch,zgf,zf0,zfp,zf4,zfs,kTO,kOV];first|(rw [if_pos (by simp_all),if_neg (by simp_all),if_neg (by simp_all),if_neg (by simp_all),if_neg (by simp_all)];exact eA)|(rw [if_neg (by simp_all),if_pos (by simp_all),if_neg (by simp_all),if_neg (by simp_all),if_neg (by simp_all)];exact eA)|(rw [if_neg (by simp_all),if_neg (by simp_all),if_pos (by simp_all),if_pos (by simp_all),if_pos (by simp_all)];exact eA)|(rw [if_neg (by simp_all),if_neg (by simp_all),if_neg (by simp_all),if_neg (by simp_all),if_neg (by simp_all)];exact eA)⟩
   ·refine rn ?_;refine y0 rfl (fun hc52=> ?_) (fun hc52=> ?_)
    ·refine rn ?_;refine y0 rfl (fun hc52=> ?_) (fun hc52=> ?_)
     ·refine j4 6 rfl ?_
      refine rn ?_;refine z7 rfl (j8 (g:=bv) (enc:=intK) (k:=h.evs[k].t) (v:=true) rfl rfl rfl ?_)
      refine rn ?_;have et:=List.take_succ_eq_append_getElem hk
      exact ⟨hk,zc2 hk zk hw,by rw [et];simp only [zch,zgf,zf0,zfp,zf4,zfs,kTO,kOV];first|(rw [if_pos (by simp_all),if_neg (by simp_all),if_neg (by simp_all),if_neg (by simp_all),if_neg (by simp_all)];exact eA)|(rw [if_neg (by simp_all),if_pos (by simp_all),if_neg (by simp_all),if_neg (by simp_all),if_neg (by simp_all)];exact eA)|(rw [if_neg (by simp_all),if_neg (by simp_all),if_pos (by simp_all),if_pos (by simp_all),if_pos (by simp_all)];exact eA)|(rw [if_neg (by simp_all),if_neg (by simp_all),if_neg (by simp_all),if_neg (by simp_all),if_neg (by simp_all)];exact eA)⟩
     ·first|cases hc52|exact absurd hc52 (by decide)|(exfalso;simp_all;done)
    ·refine rn ?_;refine y0 rfl (fun hc52=> ?_) (fun hc52=> ?_)
     ·refine j4 6 rfl ?_
      refine rn ?_;refine z7 rfl (j8 (g:=bv) (enc:=intK) (k:=h.evs[k].t) (v:=true) rfl rfl rfl ?_)
      refine rn ?_;have et:=List.take_succ_eq_append_getElem hk
      exact ⟨hk,zc2 hk zk hw,by rw [et];simp only [zch,zgf,zf0,zfp,zf4,zfs,kTO,kOV];first|(rw [if_pos (by simp_all),if_neg (by simp_all),if_neg (by simp_all),if_neg (by simp_all),if_neg (by simp_all)];exact eA)|(rw [if_neg (by simp_all),if_pos (by simp_all),if_neg (by simp_all),if_neg (by simp_all),if_neg (by simp_all)];exact eA)|(rw [if_neg (by simp_all),if_neg (by simp_all),if_pos (by simp_all),if_pos (by simp_all),if_pos (by simp_all)];exact eA)|(rw [if_neg (by simp_all),if_neg (by simp_all),if_neg (by simp_all),if_neg (by simp_all),if_neg (by simp_all)];exact eA)⟩
     ·refine rn ?_;refine y0 rfl (fun hc61=> ?_) (fun hc61=> ?_)
      ·refine w8 (y6 ?_)
       refine q1 ?_;refine q1 ?_;refine q1 ?_;refine q1 ?_;refine qq rfl rfl (u9 (out:= [iv h.evs[k].t,iv h.evs[k].o]) rfl (by rfl)) ?_
       refine z7 rfl (y7 rfl fun b5=> ?_)
       refine rn0 ?_;refine w8 ?_;refine zgs 9 [7] [8] (fun he=>he= .box b5 326 [iv h.evs[k].t,iv h.evs[k].o]:: .box b4 60 (evR h.evs[k]):: .box bl 252 (ybs h r1 r2 r3 r4 r5):: .map r1 (j9 intK (zau bv (zz2 (h.evs.take k)))):: .map r2 (j9 intK (zau bv (zzw (h.evs.take k)))):: .map r3 (j9 zan (zau iv (zua (h.evs.take k)))):: .map r4 (j9 zan (zau zv5 (ybx (h.evs.take k)))):: .map r5 (j9 zb4 (zau bv (zzv (h.evs.take k)))):: .box b1 247 [pZ bl]::I (k+1)∨∃j st,he= .box b5 326 [iv h.evs[k].t,iv h.evs[k].o]:: .box b4 60 (evR h.evs[k]):: .box bl 252 (ybs h r1 r2 r3 r4 r5):: .map r1 (j9 intK (zau bv (zz2 (h.evs.take k)))):: .map r2 (j9 intK (zau bv (zzw (h.evs.take k)))):: .mape r3 (j9 zan (zjs (h.evs[k].t,h.evs[k].o) (iv 0) (zau iv (zua (h.evs.take k))))) j st:: .map r4 (j9 zan (zau zv5 (ybx (h.evs.take k)))):: .map r5 (j9 zb4 (zau bv (zzv (h.evs.take k)))):: .box b1 247 [pZ bl]::I (k+1)) rfl rfl (.inl rfl) ?_
       refine jq rfl (fun he hC=>by rcases hC with rfl|⟨j,st,rfl⟩ <;> exact qrA) ?_
       refine jq rfl (fun he hC=>by rcases hC with rfl|⟨j,st,rfl⟩ <;> exact qrA) ?_
       refine jq rfl (fun he hC=>by rcases hC with rfl|⟨j,st,rfl⟩ <;> exact qrA) ?_
       refine jq rfl (fun he hC=>by rcases hC with rfl|⟨j,st,rfl⟩ <;> exact qrA) ?_
       refine jq rfl (fun he hC=>by rcases hC with rfl|⟨j,st,rfl⟩ <;> exact qrA) ?_
       refine jq rfl (fun he hC=>by rcases hC with rfl|⟨j,st,rfl⟩ <;> exact (by first|exact za0 (enc:=zan) (k:=(h.evs[k].t,h.evs[k].o)) (0:Int) rfl rfl|exact zw8 (enc:=zan) (k:=(h.evs[k].t,h.evs[k].o)) (0:Int) rfl rfl)) ?_
       refine jq rfl (fun he hC=>by rcases hC with rfl|⟨j,st,rfl⟩ <;> exact (by exact zfe rfl rfl rfl (by rw [zj0];have:=zko (h.evs.take k) h.evs[k].t h.evs[k].o;omega))) ?_
       refine je rfl ?_;refine je rfl ?_;refine yb0 ?_;refine jce rfl fun u=> ?_
       refine ziu (enc:=zan) (k:=(h.evs[k].t,h.evs[k].o)) rfl rfl rfl fun j st hj=>⟨_,_,rfl,.inr ⟨_,_,rfl⟩,?_⟩
       refine jcn ?_;refine lq rfl rfl (by exact qrA) ?_
       refine ln ?_;refine z7 rfl (zlb (g:=iv) (enc:=zan) (k:=(h.evs[k].t,h.evs[k].o)) (v:=((zap (h.evs[k].t,h.evs[k].o) (zua (h.evs.take k))).getD 0+1)) rfl rfl rfl (hj _) ?_)
       refine rn0 ?_;refine zgs 19 [16,17,18] [] (fun he=>∃x:Res,he= .box b5 326 [iv h.evs[k].t,iv h.evs[k].o]:: .box b4 60 (evR h.evs[k]):: .box bl 252 (ybs h r1 r2 r3 r4 r5):: .map r1 (j9 intK (zau bv (zz2 (h.evs.take k)))):: .map r2 (j9 intK (zau bv (zzw (h.evs.take k)))):: .map r3 (j9 zan (zau iv (zcq (h.evs[k].t,h.evs[k].o) ((zap (h.evs[k].t,h.evs[k].o) (zua (h.evs.take k))).getD 0+1) (zua (h.evs.take k)))))::x:: .map r5 (j9 zb4 (zau bv (zzv (h.evs.take k)))):: .box b1 247 [pZ bl]::I (k+1)) rfl rfl ⟨_,rfl⟩ ?_
       refine jq rfl (fun he hC=>by obtain ⟨x,rfl⟩:=hC <;> exact qrA) ?_
       refine jq rfl (fun he hC=>by obtain ⟨x,rfl⟩:=hC <;> exact qrA) ?_
       refine jq rfl (fun he hC=>by obtain ⟨x,rfl⟩:=hC <;> exact qrA) ?_
       refine jq rfl (fun he hC=>by obtain ⟨x,rfl⟩:=hC <;> exact qrA) ?_
       refine jq rfl (fun he hC=>by obtain ⟨x,rfl⟩:=hC <;> exact qrA) ?_
       refine jq rfl (fun he hC=>by obtain ⟨x,rfl⟩:=hC <;> exact qrA) ?_
       refine jq rfl (fun he hC=>by obtain ⟨x,rfl⟩:=hC <;> exact qrA) ?_
       refine jq rfl (fun he hC=>by obtain ⟨x,rfl⟩:=hC <;> exact qrA) ?_
       refine jq rfl (fun he hC=>by obtain ⟨x,rfl⟩:=hC <;> exact qrA) ?_
       refine jq rfl (fun he hC=>by obtain ⟨x,rfl⟩:=hC <;> exact qrA) ?_
       refine jq rfl (fun he hC=>by obtain ⟨x,rfl⟩:=hC <;> exact qrA) ?_
       refine jq rfl (fun he hC=>by obtain ⟨x,rfl⟩:=hC <;> exact qrA) ?_
       refine jq rfl (fun he hC=>by obtain ⟨x,rfl⟩:=hC <;> exact qrA) ?_
       refine jq (av:= .agg [iv h.evs[k].o,iv h.evs[k].v.t,iv h.evs[k].v.k]) rfl (fun he hC=>by obtain ⟨x,rfl⟩:=hC <;> exact (by exact u9 (out:= [iv (h.evs[k]'hk).o,iv (h.evs[k]'hk).v.t,iv (h.evs[k]'hk).v.k]) rfl (by rfl))) ?_
       refine jq rfl (fun he hC=>by obtain ⟨x,rfl⟩:=hC <;> exact qrA) ?_
       refine jq rfl (fun he hC=>by obtain ⟨x,rfl⟩:=hC <;> exact qrA) ?_
       refine je rfl ?_;refine je rfl ?_;refine je rfl ?_;refine yb0 ?_;refine jce rfl fun u=> ?_
       refine ziu (enc:=zan) (k:=(h.evs[k].t,h.evs[k].o)) rfl rfl rfl fun j st hj=>⟨_,_,rfl,⟨_,rfl⟩,?_⟩
       refine jce rfl fun u=> ?_
       refine yo1 qrA ⟨_,_,rfl,⟨_,rfl⟩,?_⟩
       refine jce rfl fun u=> ?_
       refine zlb (g:=zv5) (enc:=zan) (k:=(h.evs[k].t,h.evs[k].o)) (v:=h.evs[k].v) rfl rfl rfl (hj _) ⟨.any,_,rfl,⟨_,rfl⟩,?_⟩
       refine jcn ?_;refine ln ?_;refine z7 rfl (ziu (enc:=zb4) (k:=(h.evs[k].o,h.evs[k].v.t,h.evs[k].v.k)) rfl rfl rfl fun j2 st2 hj2=> ?_)
       refine rn ?_;refine z7 rfl (zlb (g:=bv) (enc:=zb4) (k:=(h.evs[k].o,h.evs[k].v.t,h.evs[k].v.k)) (v:=true) rfl rfl rfl (hj2 _) ?_)
       refine rn ?_;have et:=List.take_succ_eq_append_getElem hk
       exact ⟨hk,zc2 hk zk hw,by rw [et];simp only [zch,zgf,zf0,zfp,zf4,zfs,kTO,kOV];first|(rw [if_pos (by simp_all),if_neg (by simp_all),if_neg (by simp_all),if_neg (by simp_all),if_neg (by simp_all)];exact eA)|(rw [if_neg (by simp_all),if_pos (by simp_all),if_neg (by simp_all),if_neg (by simp_all),if_neg (by simp_all)];exact eA)|(rw [if_neg (by simp_all),if_neg (by simp_all),if_pos (by simp_all),if_pos (by simp_all),if_pos (by simp_all)];exact eA)|(rw [if_neg (by simp_all),if_neg (by simp_all),if_neg (by simp_all),if_neg (by simp_all),if_neg (by simp_all)];exact eA)⟩
      ·refine rn ?_;have et:=List.take_succ_eq_append_getElem hk
       exact ⟨hk,zc2 hk zk hw,by rw [et];simp only [zch,zgf,zf0,zfp,zf4,zfs,kTO,kOV];first|(rw [if_pos (by simp_all),if_neg (by simp_all),if_neg (by simp_all),if_neg (by simp_all),if_neg (by simp_all)];exact eA)|(rw [if_neg (by simp_all),if_pos (by simp_all),if_neg (by simp_all),if_neg (by simp_all),if_neg (by simp_all)];exact eA)|(rw [if_neg (by simp_all),if_neg (by simp_all),if_pos (by simp_all),if_pos (by simp_all),if_pos (by simp_all)];exact eA)|(rw [if_neg (by simp_all),if_neg (by simp_all),if_neg (by simp_all),if_neg (by simp_all),if_neg (by simp_all)];exact eA)⟩
 ·have qk:=zdg hc33 lk
  refine rn ?_;exact zc3 .nil (.drop [_,_,_,_,_,_,_] _ _) (by rw [zhy qk zk,qk])
end Go.Proofs
namespace Go.Ab
open Go
theorem zpw {P:Program} {l:Nat} {pend:Option Code} {fn:FuncId} {nt:Nat} {t:Fr} {ps:List Tmp} {asn body:Code} {dd:Nat} {args:List AV} {h:List Res} {R:AV→List Res→Prop} (hps:Nat.beq ps.length args.length=true) (hpn:(ps.all fun p=>Nat.blt p nt)=true)
 (hb:aw P (some l) nt asn (thn (fun s=>∃t' h2,Ent nt s ⟨t',.loop l .ready pend fn nt t ps.toArray asn body dd::h2,[]⟩∧aw P (some l) nt body (yd9 l pend fn nt t ps.toArray asn body dd R) ⟨t',.loop l .busy pend fn nt t ps.toArray asn body dd::h2,[]⟩) (fun _ _=>False))
  ⟨zng ps args t,.loop l .ready pend fn nt t ps.toArray asn body dd::h,[]⟩):y1 P (yv l) args (.loop l .ready pend fn nt t ps.toArray asn body dd::h) R:=by
 intro X w v vs hh hv ha
 rw [hv.v_eq]
 obtain ⟨tmps,hl,hsz,hfr⟩:=zf3 hh
 have hlen:ps.length=vs.length:=by rw [Nat.eq_of_beq_eq_true hps];exact ha.length
 have hrun:(zlu (.func (.yield l) #[] #[]) vs.toArray).run P w= .ok (.round l fn ((ps.zip vs).foldl (fun tmps (x:Tmp×Value)=>tmps.setIfInBounds x.1 x.2) tmps) asn body) w:=by
  simp only [zlu,Deferred.ofValue,Sem.run_bind,Sem.run_pure,Result.andThen_ok,invoke,Instr.yield,zcr hl]
  simp only [Array.append_eq_append,Array.empty_append,List.size_toArray]
  rw [if_neg (by omega)]
  simp only [Sem.run_pure]
  congr 2
  rw [←Array.foldl_toList]
  simp
 rw [hrun]
 have hpn':∀p∈ps,p < tmps.size:=fun p hp=>by have:=List.all_eq_true.1 hpn p hp;rw [hsz];exact Nat.le_of_ble_eq_true this
 obtain ⟨z1,z2⟩:=zqn hpn' ha hfr
 refine roundIn_of_wpIn (F:=FW none) trivial ?_
 refine wpIn_mono (hb X {tmps:=(ps.zip vs).foldl (fun tmps (x:Tmp×Value)=>tmps.setIfInBounds x.1 x.2) tmps,defers:= []} w ⟨hh,by rw [z2,hsz],z1,rfl⟩) ?_
 rintro e a1 w1 ⟨s1,q1,r1,k1⟩
 cases e with
 |normal=>
  obtain ⟨t',h2,hent,hbody⟩:=q1
  have r1':=hent.2 X a1 w1 r1
  have k1':Keep (j5 (.loop l .ready pend fn nt t ps.toArray asn body dd::h)) w (j5 (.loop l .ready pend fn nt t ps.toArray asn body dd::h2)) w1:=⟨k1.size,fun b hb ho=>⟨(k1.same b hb ho).1,fun hm=>(k1.same b hb ho).2 (hent.1 b hm)⟩,k1.env⟩
  obtain ⟨tmps1,hl1,hsz1,hfr1⟩:=zf3 r1'.heap
  obtain ⟨w2,g1,g2,g3,g4,g5⟩:=zkb (P:=P) (st':= .busy) (pend':=pend) r1'.heap hl1
  refine ⟨w2,?_,?_⟩
  ·simp only [Instr.beginRound,Sem.run_bind,zcr hl1,Result.andThen_ok,g1,Sem.run_pure]
  ·have hsim:Sim X nt ⟨t',.loop l .busy pend fn nt t ps.toArray asn body dd::h2,[]⟩ a1 w2:=⟨g2,r1'.size,r1'.fr.keep g3.size g4,r1'.defs⟩
   refine wpIn_mono (hbody X a1 w2 hsim) ?_
   rintro e2 a3 w3 ⟨s3,⟨h1,hp,hR⟩,r3,k3⟩
   have hh3:=r3.heap.perm hp
   obtain ⟨tmps3,hl3,hsz3,hfr3⟩:=zf3 hh3
   have fin:∀(jump:Option Code),(∀b:Bool,b=jump.isNone→R (.v (.bool b)) (.loop l (if jump.isNone then .ready else .done) jump fn nt t ps.toArray asn body dd::h1))→
    ∃v w',(Instr.endRound l jump).run P w3= .ok v w'∧zl2 X w (.loop l .ready pend fn nt t ps.toArray asn body dd::h) R (.returned v) w':=by
    intro jump hRj
    obtain ⟨w4,f1,f2,f3,f4,f5⟩:=zkb (P:=P) (st':=if jump.isNone then .ready else .done) (pend':=jump) hh3 hl3
    refine ⟨.bool jump.isNone,w4,?_,.bool jump.isNone,.v (.bool jump.isNone),_,rfl,hRj _ rfl,.v _,f2,?_⟩
    ·simp only [Instr.endRound,Sem.run_bind,zcr hl3,Result.andThen_ok,f1,Sem.run_pure]
    ·exact (k1'.trans g3).trans ((k3.perm_right hp).trans f3)
   cases e2 with
   |normal=>exact fin none fun b hb=>by subst hb;exact hR
   |ret=>exact fin (some .ret) fun b hb=>by subst hb;exact hR
   |exit id=>exact fin (some (.exit id)) fun b hb=>by subst hb;exact hR
   |goto g=>exact hR.elim
   |panic ch=>exact hR.elim
   |outgrown=>exact hR.elim
 |exit id=>exact q1.elim
 |goto g=>exact q1.elim
 |ret=>exact q1.elim
 |panic ch=>exact q1.elim
 |outgrown=>exact q1.elim
theorem zcm {P:Program} {l:Nat} {pend:Option Code} {fn:FuncId} {nt:Nat} {t:Fr} {ps:List Tmp} {asn body:Code} {dd:Nat} {args:List AV} {h:List Res} {R:AV→List Res→Prop} {lp:LP} (hlp:lp=fun st pend=> .loop l st pend fn nt t ps.toArray asn body dd)
 (hps:Nat.beq ps.length args.length=true) (hpn:(ps.all fun p=>Nat.blt p nt)=true)
 (hb:aw P (some l) nt asn (thn (fun s=>∃t' h2,Ent nt s ⟨t',lp .ready pend::h2,[]⟩∧aw P (some l) nt body (zqk lp pend R) ⟨t',lp .busy pend::h2,[]⟩) (fun _ _=>False))
  ⟨zng ps args t,lp .ready pend::h,[]⟩):y1 P (yv l) args (lp .ready pend::h) R:=by
 subst hlp
 exact zpw hps hpn hb
end Go.Ab
set_option maxRecDepth 10000
namespace Go.Proofs
open Go Go.Ab
attribute [local irreducible] QR QV OE zb5 aw zce zcn za2 zbr thn zd9 zcl jch zd7
open Go.H
theorem yfq (bl:Nat) (W:List Res):y8 Tryz.prog 341 [pZ bl] W (fun r h'=>∃b1,h'= .box b1 247 [pZ bl]::W∧r= .fn (.func 343) [] [pZ b1]):=by
 refine z6 Tryz.func341 rfl rfl rfl ?_
 refine rn ?_;refine z7 rfl (w7 rfl rfl rfl fun b1=> ?_)
 refine rn ?_;exact zal rfl (.refl _ _) ⟨_,rfl,rfl⟩
theorem rAt (h:Hist) (la:h.evs.length≤1000000) (bl:Nat) (fv:AV) (hone:fv.cellsOf=some [fv]) (W:List Res) (w:Nat→Ev→Bool) (hp:∀k (hk:k < h.evs.length) r1 r2 r3 r4 r5,y1 Tryz.prog fv [.agg (evR h.evs[k])] (zch bl h (h.evs.take k) r1 r2 r3 r4 r5 W) (fun r h'=>h'=zch bl h (h.evs.take k) r1 r2 r3 r4 r5 W∧r=bv (w k h.evs[k]))):y8 Tryz.prog 316 [pZ bl,fv] (.box bl 252 (zbq h)::W) (fun r h'=>h'=W∧r=za8 (zcx w 0 h.evs)):=by
 refine z6 Tryz.func316 rfl rfl rfl ?_
 refine rn ?_;refine z7 rfl (w7 rfl hone rfl fun b3=> ?_)
 refine z7 rfl (y7 rfl fun b4=> ?_)
 refine z7 rfl (y7 rfl fun b5=> ?_)
 refine rn ?_;refine z7 rfl (q7 rfl rfl (y1.of_fun (yfq bl _)) rfl ?_)
 rintro _ _ ⟨b1,rfl,rfl⟩
 refine rn ?_;refine zjz (fun pend h''=>(pend=none∧zcx w 0 h.evs=none∧h''= .box b5 4 [bv false]:: .box b4 3 [iv 0]:: .box b3 233 [fv]::W)∨(pend=some .ret∧∃k:Nat,zcx w 0 h.evs=some k∧h''= .box b5 4 [bv true]:: .box b4 3 [iv (k:Nat)]:: .box b3 233 [fv]::W)) rfl (fun fn l q lp hlp=> ?_) (fun q h'' hK=> ?_) (fun q h'' c hK=> ?_)
 ·suffices hy:∀k (hk:k < h.evs.length) r1 r2 r3 r4 r5,y1 Tryz.prog (yv l) [iv k,.agg (evR h.evs[k])] (zch bl h (h.evs.take k) r1 r2 r3 r4 r5 (.box b1 247 [pZ bl]::(fun _=>lp .ready none:: .defs q:: .box b5 4 [bv false]:: .box b4 3 [iv 0]:: .box b3 233 [fv]::W) k)) (fun r h'=>r=bv (!w k h.evs[k])∧h'=zch bl h (h.evs.take k) r1 r2 r3 r4 r5 (.box b1 247 [pZ bl]::bif w k h.evs[k] then (fun k=>lp .done (some .ret):: .defs q:: .box b5 4 [bv true]:: .box b4 3 [iv (k:Nat)]:: .box b3 233 [fv]::W) k else (fun _=>lp .ready none:: .defs q:: .box b5 4 [bv false]:: .box b4 3 [iv 0]:: .box b3 233 [fv]::W) (k+1))) by
   refine y8.mono (y8.perm ((pt6 _ _ _ _ _ _ _ _).trans (.cons _ (pt2 _ _ _ _))) (yaz h la (yv l) bl b1 w (fun _=>lp .ready none:: .defs q:: .box b5 4 [bv false]:: .box b4 3 [iv 0]:: .box b3 233 [fv]::W) (fun k=>lp .done (some .ret):: .defs q:: .box b5 4 [bv true]:: .box b4 3 [iv (k:Nat)]:: .box b3 233 [fv]::W) hy)) ?_
   rintro _ _ rfl
   cases hr:zcx w 0 h.evs with
   |none=>exact ⟨none,.ready,_,.refl _,by simp,.inl ⟨rfl,rfl,rfl⟩⟩
   |some k=>exact ⟨_,_,_,.refl _,by simp,.inr ⟨rfl,k,rfl,rfl⟩⟩
  intro k hk r1 r2 r3 r4 r5
  refine y1.perm (pt7 _ _ _ _ _ _ _ _ _) (y1.permR ?_)
  refine zcm hlp rfl rfl ?_
  refine rn ?_;refine z7 rfl (y7 rfl fun b7=> ?_)
  refine rn ?_;refine ⟨[(6,iv k),(7,pZ b7),(3,pZ b3),(4,pZ b4),(5,pZ b5)],.box b7 60 (evR h.evs[k])::zch bl h (h.evs.take k) r1 r2 r3 r4 r5 (.box b1 247 [pZ bl]:: .defs q:: .box b5 4 [bv false]:: .box b4 3 [iv 0]:: .box b3 233 [fv]::W),v6 (zas (pt1 _ _ _)) es,?_⟩
  refine rn ?_;refine qv rfl rfl (y4 rfl rfl (y1.qt (h2:= [_,_,_,_,_,_,_]) (hp k hk r1 r2 r3 r4 r5) (List.Perm.trans (.cons _ (.cons _ ((pt6 _ _ _ _ _ _ _ _).trans (.cons _ ((pt6 _ _ _ _ _ _ _ _).trans (.cons _ ((pt6 _ _ _ _ _ _ _ _).trans (.cons _ ((pt6 _ _ _ _ _ _ _ _).trans (.cons _ (pt6 _ _ _ _ _ _ _ _))))))))))) (zdo [_,_,_,_,_,_,_] _)))) ?_
  refine rn ?_;refine y0 rfl (fun hc14=> ?_) (fun hc14=> ?_)
  ·have hw:w k h.evs[k]=true:=by simpa using hc14
   refine zfi (s':=⟨[(6,iv k),(4,pZ b4),(5,pZ b5)],lp .busy none::zch bl h (h.evs.take k) r1 r2 r3 r4 r5 (.box b1 247 [pZ bl]:: .defs q:: .box b5 4 [bv false]:: .box b4 3 [iv 0]:: .box b3 233 [fv]::W),[]⟩) (eD 1) ?_
   refine rn ?_;exact znr (.refl _) ⟨_,((pt1 _ _ _).trans (.cons _ ((pt1 _ _ _).trans (.cons _ ((pt1 _ _ _).trans (.cons _ ((pt1 _ _ _).trans (.cons _ ((pt1 _ _ _).trans (.cons _ ((pt1 _ _ _).trans (.cons _ (pt1 _ _ _))))))))))))),by rw [hw];rfl,by rw [hw];rfl⟩
  ·have hw:w k h.evs[k]=false:=by simpa using hc14
   refine zfi (s':=⟨[(6,iv k),(4,pZ b4),(5,pZ b5)],lp .busy none::zch bl h (h.evs.take k) r1 r2 r3 r4 r5 (.box b1 247 [pZ bl]:: .defs q:: .box b5 4 [bv false]:: .box b4 3 [iv 0]:: .box b3 233 [fv]::W),[]⟩) (eD 1) ?_
   refine rn ?_;exact zcf (.refl _) ⟨_,((pt1 _ _ _).trans (.cons _ ((pt1 _ _ _).trans (.cons _ ((pt1 _ _ _).trans (.cons _ ((pt1 _ _ _).trans (.cons _ ((pt1 _ _ _).trans (.cons _ ((pt1 _ _ _).trans (.cons _ (pt1 _ _ _))))))))))))),by rw [hw];rfl,by rw [hw];rfl⟩
 ·obtain ⟨_,hr,rfl⟩|⟨hc,_⟩:=hK
  rotate_left
  ·cases hc
  refine rn ?_;exact zfy (.refl _) (.cons _ _ _ _ (.one _ _ _ _ _ _ _ rfl inferInstance inferInstance rfl) (.cons _ _ _ _ (.one _ _ _ _ _ _ _ rfl inferInstance inferInstance rfl) .nil)) (.drop [_,_,_] _ _) ⟨rfl,by rw [hr];rfl⟩
 ·obtain ⟨hc,_⟩|⟨hc,k,hr,rfl⟩:=hK
  ·cases hc
  obtain rfl:c= .ret:=by simpa using hc
  refine rn ?_;exact zfy (.refl _) (.cons _ _ _ _ (.one _ _ _ _ _ _ _ rfl inferInstance inferInstance rfl) (.cons _ _ _ _ (.one _ _ _ _ _ _ _ rfl inferInstance inferInstance rfl) .nil)) (.drop [_,_,_] _ _) ⟨rfl,by rw [hr];rfl⟩
theorem zc4 (o:Option Nat):∃i b,za8 o= .tup [iv i,bv b]:=by
 cases o with
 |none=>exact ⟨_,_,rfl⟩
 |some i=>exact ⟨_,_,rfl⟩
theorem yi9 (h:Hist) (la:Lim 3000 h) (bl:Nat) (G:List Res):y8 Tryz.prog 300 [pZ bl] (.box bl 252 (zbq h)::G) (fun r h'=>h'=G∧r=za8 (zb7 h 1)):=by
 refine z6 Tryz.func300 rfl rfl rfl ?_
 refine rn ?_;refine z7 rfl (w7 rfl rfl rfl fun b1=> ?_)
 refine rn ?_;refine z7 rfl (q7 rfl rfl (y1.perm (pt1 _ _ _) (y1.of_fun (rAt h (Nat.le_trans la.evs (by decide)) bl (.fn (.func 317) [] [pZ b1]) rfl (.box b1 247 [pZ bl]::G) (fun k e=>za5 1 e (h.evs.take k)) (fun k hk r1 r2 r3 r4 r5=>y1.qt (h2:=G) (y1.of_acall (fs:= []) (cs:= [pZ b1]) (yfs _ bl b1 h _ r1 r2 r3 r4 r5)) (.refl _))))) rfl ?_)
 rintro _ _ ⟨rfl,rfl⟩
 obtain ⟨pi,pb,hpv⟩:∃i b,za8 (zcx (fun k e=>za5 1 e (h.evs.take k)) 0 h.evs)= .tup [iv i,bv b]:=zc4 _
 rw [hpv]
 refine rn ?_;refine rq 1 ?_
 exact ⟨rfl,hpv.symm⟩
theorem yoz (h:Hist) (la:Lim 3000 h) (bl:Nat) (G:List Res):y8 Tryz.prog 307 [pZ bl] (.box bl 252 (zbq h)::G) (fun r h'=>h'=G∧r=za8 (zb7 h 2)):=by
 refine z6 Tryz.func307 rfl rfl rfl ?_
 refine rn ?_;refine z7 rfl (w7 rfl rfl rfl fun b1=> ?_)
 refine rn ?_;refine z7 rfl (q7 rfl rfl (y1.perm (pt1 _ _ _) (y1.of_fun (rAt h (Nat.le_trans la.evs (by decide)) bl (.fn (.func 318) [] [pZ b1]) rfl (.box b1 247 [pZ bl]::G) (fun k e=>za5 2 e (h.evs.take k)) (fun k hk r1 r2 r3 r4 r5=>y1.qt (h2:=G) (y1.of_acall (fs:= []) (cs:= [pZ b1]) (ymo _ bl b1 h _ r1 r2 r3 r4 r5)) (.refl _))))) rfl ?_)
 rintro _ _ ⟨rfl,rfl⟩
 obtain ⟨pi,pb,hpv⟩:∃i b,za8 (zcx (fun k e=>za5 2 e (h.evs.take k)) 0 h.evs)= .tup [iv i,bv b]:=zc4 _
 rw [hpv]
 refine rn ?_;refine rq 1 ?_
 exact ⟨rfl,hpv.symm⟩
theorem yi8 (h:Hist) (la:Lim 3000 h) (bl:Nat) (G:List Res):y8 Tryz.prog 308 [pZ bl] (.box bl 252 (zbq h)::G) (fun r h'=>h'=G∧r=za8 (zb7 h 3)):=by
 refine z6 Tryz.func308 rfl rfl rfl ?_
 refine rn ?_;refine z7 rfl (w7 rfl rfl rfl fun b1=> ?_)
 refine rn ?_;refine z7 rfl (q7 rfl rfl (y1.perm (pt1 _ _ _) (y1.of_fun (rAt h (Nat.le_trans la.evs (by decide)) bl (.fn (.func 319) [] [pZ b1]) rfl (.box b1 247 [pZ bl]::G) (fun k e=>za5 3 e (h.evs.take k)) (fun k hk r1 r2 r3 r4 r5=>y1.qt (h2:=G) (y1.of_acall (fs:= []) (cs:= [pZ b1]) (yfr _ bl b1 h _ r1 r2 r3 r4 r5 (by have:=la.evs;simp;omega))) (.refl _))))) rfl ?_)
 rintro _ _ ⟨rfl,rfl⟩
 obtain ⟨pi,pb,hpv⟩:∃i b,za8 (zcx (fun k e=>za5 3 e (h.evs.take k)) 0 h.evs)= .tup [iv i,bv b]:=zc4 _
 rw [hpv]
 refine rn ?_;refine rq 1 ?_
 exact ⟨rfl,hpv.symm⟩
theorem yau (h:Hist) (la:Lim 3000 h) (bl:Nat) (G:List Res):y8 Tryz.prog 309 [pZ bl] (.box bl 252 (zbq h)::G) (fun r h'=>h'=G∧r=za8 (zb7 h 4)):=by
 refine z6 Tryz.func309 rfl rfl rfl ?_
 refine rn ?_;refine z7 rfl (w7 rfl rfl rfl fun b1=> ?_)
 refine rn ?_;refine z7 rfl (q7 rfl rfl (y1.perm (pt1 _ _ _) (y1.of_fun (rAt h (Nat.le_trans la.evs (by decide)) bl (.fn (.func 320) [] [pZ b1]) rfl (.box b1 247 [pZ bl]::G) (fun k e=>za5 4 e (h.evs.take k)) (fun k hk r1 r2 r3 r4 r5=>y1.qt (h2:=G) (y1.of_acall (fs:= []) (cs:= [pZ b1]) (zw2 _ bl b1 h _ r1 r2 r3 r4 r5 (Nat.le_trans (la.scans _ (List.getElem_mem hk)) (by decide)))) (.refl _))))) rfl ?_)
 rintro _ _ ⟨rfl,rfl⟩
 obtain ⟨pi,pb,hpv⟩:∃i b,za8 (zcx (fun k e=>za5 4 e (h.evs.take k)) 0 h.evs)= .tup [iv i,bv b]:=zc4 _
 rw [hpv]
 refine rn ?_;refine rq 1 ?_
 exact ⟨rfl,hpv.symm⟩
theorem yov (h:Hist) (la:Lim 3000 h) (bl:Nat) (G:List Res):y8 Tryz.prog 310 [pZ bl] (.box bl 252 (zbq h)::G) (fun r h'=>h'=G∧r=za8 (zb7 h 5)):=by
 refine z6 Tryz.func310 rfl rfl rfl ?_
 refine rn ?_;refine z7 rfl (w7 rfl rfl rfl fun b1=> ?_)
 refine rn ?_;refine z7 rfl (q7 rfl rfl (y1.perm (pt1 _ _ _) (y1.of_fun (rAt h (Nat.le_trans la.evs (by decide)) bl (.fn (.func 323) [] [pZ b1]) rfl (.box b1 247 [pZ bl]::G) (fun k e=>za5 5 e (h.evs.take k)) (fun k hk r1 r2 r3 r4 r5=>y1.qt (h2:=G) (y1.of_acall (fs:= []) (cs:= [pZ b1]) (ymk _ bl b1 h _ r1 r2 r3 r4 r5 (Nat.le_trans (la.scans _ (List.getElem_mem hk)) (by decide)))) (.refl _))))) rfl ?_)
 rintro _ _ ⟨rfl,rfl⟩
 obtain ⟨pi,pb,hpv⟩:∃i b,za8 (zcx (fun k e=>za5 5 e (h.evs.take k)) 0 h.evs)= .tup [iv i,bv b]:=zc4 _
 rw [hpv]
 refine rn ?_;refine rq 1 ?_
 exact ⟨rfl,hpv.symm⟩
theorem ymj (h:Hist) (la:Lim 3000 h) (bl:Nat) (G:List Res):y8 Tryz.prog 311 [pZ bl] (.box bl 252 (zbq h)::G) (fun r h'=>h'=G∧r=za8 (zb7 h 6)):=by
 refine z6 Tryz.func311 rfl rfl rfl ?_
 refine rn ?_;refine z7 rfl (q7 rfl rfl (id (y1.of_fun (rAt h (Nat.le_trans la.evs (by decide)) bl (.fn (.func 325) [] []) rfl (G) (fun k e=>za5 6 e (h.evs.take k)) (fun k hk r1 r2 r3 r4 r5=>y1.pure (R:=fun r=>r=bv _) (y1.of_acall (fs:= []) (cs:= []) (yi0 _ (Nat.le_trans (la.scans _ (List.getElem_mem hk)) (by decide)))))))) rfl ?_)
 rintro _ _ ⟨rfl,rfl⟩
 obtain ⟨pi,pb,hpv⟩:∃i b,za8 (zcx (fun k e=>za5 6 e (h.evs.take k)) 0 h.evs)= .tup [iv i,bv b]:=zc4 _
 rw [hpv]
 refine rn ?_;refine rq 0 ?_
 exact ⟨rfl,hpv.symm⟩
open Go.Shelf
def ye4:Go.Shelf.Ren:=⟨fun|125=>137|128=>184|129=>185|189=>89|215=>204|216=>181|257=>136|294=>175|295=>176|296=>177|297=>178|298=>179|299=>180|300=>182|301=>183|328=>219|329=>220|330=>221|331=>222|332=>223|343=>265|n=>n,fun|0=>0|3=>3|4=>4|5=>5|9=>9|28=>29|46=>180|51=>225|53=>227|131=>67|182=>218|183=>219|218=>265|222=>185|228=>288|229=>289|n=>n,fun n=>n⟩
theorem yal:Lays.n189 Tryz.prog ye4:={
 mixed:=by kernel_rfl
 f125:=Tryz.func137.trans (congrArg some (by kernel_rfl))
 f128:=Tryz.func184.trans (congrArg some (by kernel_rfl))
 f129:=Tryz.func185.trans (congrArg some (by kernel_rfl))
 f189:=Tryz.func89.trans (congrArg some (by kernel_rfl))
 f215:=Tryz.func204.trans (congrArg some (by kernel_rfl))
 f216:=Tryz.func181.trans (congrArg some (by kernel_rfl))
 f257:=Tryz.func136.trans (congrArg some (by kernel_rfl))
 f294:=Tryz.func175.trans (congrArg some (by kernel_rfl))
 f295:=Tryz.func176.trans (congrArg some (by kernel_rfl))
 f296:=Tryz.func177.trans (congrArg some (by kernel_rfl))
 f297:=Tryz.func178.trans (congrArg some (by kernel_rfl))
 f298:=Tryz.func179.trans (congrArg some (by kernel_rfl))
 f299:=Tryz.func180.trans (congrArg some (by kernel_rfl))
 f300:=Tryz.func182.trans (congrArg some (by kernel_rfl))
 f301:=Tryz.func183.trans (congrArg some (by kernel_rfl))
 f328:=Tryz.func219.trans (congrArg some (by kernel_rfl))
 f329:=Tryz.func220.trans (congrArg some (by kernel_rfl))
 f330:=Tryz.func221.trans (congrArg some (by kernel_rfl))
 f331:=Tryz.func222.trans (congrArg some (by kernel_rfl))
 f332:=Tryz.func223.trans (congrArg some (by kernel_rfl))
 f343:=Tryz.func265.trans (congrArg some (by kernel_rfl))
 t0:=Tryz.underlying0
 a0:=Tryz.isAgg0
 z0:=Tryz.sizeOf0
 v0:=Tryz.zeroValue0
 t3:=Tryz.underlying3
 a3:=Tryz.isAgg3
 z3:=Tryz.sizeOf3
 v3:=Tryz.zeroValue3
 t4:=Tryz.underlying4
 a4:=Tryz.isAgg4
 z4:=Tryz.sizeOf4
 v4:=Tryz.zeroValue4
 t5:=Tryz.underlying5
 a5:=Tryz.isAgg5
 z5:=Tryz.sizeOf5
 v5:=Tryz.zeroValue5
 t9:=Tryz.underlying9
 a9:=Tryz.isAgg9
 z9:=Tryz.sizeOf9
 v9:=Tryz.zeroValue9
 t28:=Tryz.underlying29
 a28:=Tryz.isAgg29
 z28:=Tryz.sizeOf29
 v28:=Tryz.zeroValue29
 t46:=Tryz.underlying180
 a46:=Tryz.isAgg180
 z46:=Tryz.sizeOf180
 v46:=Tryz.zeroValue180
 t51:=Tryz.underlying225
 a51:=Tryz.isAgg225
 z51:=Tryz.sizeOf225
 v51:=Tryz.zeroValue225
 t53:=Tryz.underlying227
 a53:=Tryz.isAgg227
 z53:=Tryz.sizeOf227
 v53:=Tryz.zeroValue227
 t131:=Tryz.underlying67
 a131:=Tryz.isAgg67
 z131:=Tryz.sizeOf67
 v131:=Tryz.zeroValue67
 t182:=Tryz.underlying218
 a182:=Tryz.isAgg218
 z182:=Tryz.sizeOf218
 v182:=Tryz.zeroValue218
 t183:=Tryz.underlying219
 a183:=Tryz.isAgg219
 z183:=Tryz.sizeOf219
 v183:=Tryz.zeroValue219
 t218:=Tryz.underlying265
 a218:=Tryz.isAgg265
 z218:=Tryz.sizeOf265
 v218:=Tryz.zeroValue265
 t222:=Tryz.underlying185
 a222:=Tryz.isAgg185
 z222:=Tryz.sizeOf185
 v222:=Tryz.zeroValue185
 t228:=Tryz.underlying288
 a228:=Tryz.isAgg288
 z228:=Tryz.sizeOf288
 v228:=Tryz.zeroValue288
 t229:=Tryz.underlying289
 a229:=Tryz.isAgg289
 z229:=Tryz.sizeOf289
 v229:=Tryz.zeroValue289}
def yhc:Go.Shelf.Ren:=⟨fun|20=>90|n=>n,fun|0=>0|3=>3|4=>4|22=>29|n=>n,fun n=>n⟩
theorem ych:Lays2.n20 Tryz.prog yhc:={
 mixed:=by kernel_rfl
 f20:=Tryz.func90.trans (congrArg some (by kernel_rfl))
 i3:=by kernel_rfl
 t0:=Tryz.underlying0
 a0:=Tryz.isAgg0
 z0:=Tryz.sizeOf0
 v0:=Tryz.zeroValue0
 t3:=Tryz.underlying3
 a3:=Tryz.isAgg3
 z3:=Tryz.sizeOf3
 v3:=Tryz.zeroValue3
 t4:=Tryz.underlying4
 a4:=Tryz.isAgg4
 z4:=Tryz.sizeOf4
 v4:=Tryz.zeroValue4
 t22:=Tryz.underlying29
 a22:=Tryz.isAgg29
 z22:=Tryz.sizeOf29
 v22:=Tryz.zeroValue29}
theorem ztw {f:Bool} (rows:List (List AV)) (hl:rows.length≤1099511627776):y8 Tryz.prog 64 [.list f 1 rows] [] (fun r h'=>h'= []∧r= .list false 1 rows):=by
 refine z6 Tryz.func64 rfl rfl rfl ?_
 refine rn ?_;refine z7 rfl (zh2 rfl rfl rfl fun b4 hb4=> ?_)
 refine rn ?_;refine y0 rfl (fun hc4=> ?_) (fun hc4=> ?_)
 ·refine rn ?_;have h0:=hb4 hc4
  subst h0
  exact zal rfl (.le (Sb.nil _ _).le) ⟨rfl,rfl⟩
 ·refine rn ?_;refine qv rfl rfl (w9 rfl rfl) ?_
  refine rn ?_;refine qv rfl rfl (zhz rfl rfl (by simpa using hl)) ?_
  refine rn ?_;exact zal rfl (.refl _ _) ⟨rfl,by rw [List.nil_append];rfl⟩
theorem zqb {f:Bool} (rows:List (List AV)) (hl:rows.length * 8≤140737488355328) (hone:∀r∈rows,r.all AV.one=true):y8 Tryz.prog 64 [.list f 1 rows] [] (fun r h'=>∃s,h'= [.row s 1 3 rows]∧r= .v s):=by
 refine z6 Tryz.func64 rfl rfl rfl ?_
 refine rn ?_;refine z7 rfl (zh2 rfl rfl rfl fun b4 hb4=> ?_)
 refine rn ?_;refine y0 rfl (fun hc4=> ?_) (fun hc4=> ?_)
 ·refine rn ?_;have h0:=hb4 hc4
  subst h0
  exact zal rfl (zag 1 3 _) ⟨_,rfl,rfl⟩
 ·refine rn ?_;refine z7 rfl (zhe rfl rfl rfl fun s5=> ?_)
  refine rn ?_;refine z7 rfl (zek rfl rfl (by simp only [List.length_nil];omega) rfl (fun s7=> ?_) hone (by simpa using hl))
  refine rn ?_;exact zal rfl (.refl _ _) ⟨_,by rw [List.nil_append],rfl⟩
theorem zls {f:Bool} (rows:List (List AV)) (hl:rows.length≤1099511627776) (hone:∀r∈rows,r.all AV.one=true):y8 Tryz.prog 64 [.list f 1 rows] [] (fun r h'=>∃s,h'= [.row s 1 3 rows]∧r= .v s):=zqb rows (by omega) hone
theorem zqa {f:Bool} (rows:List (List AV)) (hl:rows.length * 16≤140737488355328) (hone:∀r∈rows,r.all AV.one=true):y8 Tryz.prog 154 [.list f 1 rows] [] (fun r h'=>∃s,h'= [.row s 1 9 rows]∧r= .v s):=by
 refine z6 Tryz.func154 rfl rfl rfl ?_
 refine rn ?_;refine z7 rfl (zh2 rfl rfl rfl fun b4 hb4=> ?_)
 refine rn ?_;refine y0 rfl (fun hc4=> ?_) (fun hc4=> ?_)
 ·refine rn ?_;have h0:=hb4 hc4
  subst h0
  exact zal rfl (zag 1 9 _) ⟨_,rfl,rfl⟩
 ·refine rn ?_;refine z7 rfl (zhe rfl rfl rfl fun s5=> ?_)
  refine rn ?_;refine z7 rfl (zek rfl rfl (by simp only [List.length_nil];omega) rfl (fun s7=> ?_) hone (by simpa using hl))
  refine rn ?_;exact zal rfl (.refl _ _) ⟨_,by rw [List.nil_append],rfl⟩
theorem zr8 {f:Bool} (rows:List (List AV)) (hl:rows.length≤1099511627776) (hone:∀r∈rows,r.all AV.one=true):y8 Tryz.prog 154 [.list f 1 rows] [] (fun r h'=>∃s,h'= [.row s 1 9 rows]∧r= .v s):=zqa rows (by omega) hone
theorem zy3 {f:Bool} (rows:List (List AV)) (hl:rows.length≤1099511627776):y8 Tryz.prog 85 [.list f 3 rows] [] (fun r h'=>h'= []∧r= .list false 3 rows):=by
 refine z6 Tryz.func85 rfl rfl rfl ?_
 refine rn ?_;refine z7 rfl (zh2 rfl rfl rfl fun b4 hb4=> ?_)
 refine rn ?_;refine y0 rfl (fun hc4=> ?_) (fun hc4=> ?_)
 ·refine rn ?_;have h0:=hb4 hc4
  subst h0
  exact zal rfl (.le (Sb.nil _ _).le) ⟨rfl,rfl⟩
 ·refine rn ?_;refine qv rfl rfl (w9 rfl rfl) ?_
  refine rn ?_;refine qv rfl rfl (zhz rfl rfl (by simpa using hl)) ?_
  refine rn ?_;exact zal rfl (.refl _ _) ⟨rfl,by rw [List.nil_append];rfl⟩
theorem ycl {f:Bool} (rows:List (List AV)) (hl:rows.length≤1099511627776):y8 Tryz.prog 110 [.list f 2 rows] [] (fun r h'=>h'= []∧r= .list false 2 rows):=by
 refine z6 Tryz.func110 rfl rfl rfl ?_
 refine rn ?_;refine z7 rfl (zh2 rfl rfl rfl fun b4 hb4=> ?_)
 refine rn ?_;refine y0 rfl (fun hc4=> ?_) (fun hc4=> ?_)
 ·refine rn ?_;have h0:=hb4 hc4
  subst h0
  exact zal rfl (.le (Sb.nil _ _).le) ⟨rfl,rfl⟩
 ·refine rn ?_;refine qv rfl rfl (w9 rfl rfl) ?_
  refine rn ?_;refine qv rfl rfl (zhz rfl rfl (by simpa using hl)) ?_
  refine rn ?_;exact zal rfl (.refl _ _) ⟨rfl,by rw [List.nil_append];rfl⟩
theorem zwf (s:SV) (xs:List Int) (hs:xs.length < 4611686018427387904):y8 Tryz.prog 89 [.v s.v] [.row s.v 1 3 (xs.map za9)] (fun r h'=>h'= [.row s.v 1 3 ((srt xs).map za9)]∧r= .v (.tuple #[])):=
 zvk yal s 3 xs hs
theorem zyy (s:SV) (xs:List Int) (hs:xs.length≤4611686018427387904):y8 Tryz.prog 90 [.v s.v] [.row s.v 1 3 (xs.map za9)] (fun r h'=>∃s':SV,h'= [.row s'.v 1 3 ((zbi xs).map za9)]∧r= .v s'.v):=by
 rw [←zvg];exact zoh ych s 3 xs hs
theorem zns (h:Hist) (la:Lim 3000 h) (bl:Nat) (x:Int) (G:List Res):y8 Tryz.prog 328 [pZ bl,iv x] (.box bl 252 (zbq h)::G) (fun r h'=>h'= .box bl 252 (zbq h)::G∧r=za6 (zao h.evs x)):=by
 refine z6 Tryz.func328 rfl rfl rfl ?_
 have be:=la.evs
 refine rn ?_;refine z7 rfl (zac (enc:=intK) rfl fun bm=> ?_)
 refine rn ?_;refine zby h.evs.length (fun k=>True) (fun k=>⟨[(18,iv k),(0,pZ bl),(1,iv x),(5,.v (.map (some bm))),(16,zyn h.evs),(17,iv (h.evs.map evR).length)],.map bm (j9 intK (zau bv (yd0 (h.evs.take k)))):: .box bl 252 (zbq h)::G,[]⟩) trivial es ?_
 intro k lk _
 refine rn ?_;refine y0 rfl (fun hc19=> ?_) (fun hc19=> ?_)
 ·have hk:=zde hc19
  have rk:=zbn (f:=evR) hk
  refine rn ?_;refine z7 rfl (y7 rfl fun b7=> ?_)
  first|refine z7 rfl (u5 rfl rfl rfl ?_)|refine z7 rfl (zaf rfl rfl rfl rfl (Nat.le_of_ble_eq_true rfl) ?_)
  refine v8 (zak ?_)
  refine y6 ?_;refine q1 ?_;refine q1 ?_;refine q1 ?_;refine q1 ?_;refine q1 ?_;refine q1 ?_;refine qq rfl rfl (za0 (enc:=intK) (k:=h.evs[k].t) false rfl rfl) ?_
  refine rn ?_;refine u0 (fun hg5_7=> ?_) (fun hg5_7=> ?_)
  ·refine rn ?_;refine z7 rfl (j8 (g:=bv) (enc:=intK) (k:=h.evs[k].t) rfl rfl rfl ?_)
   refine rn ?_;exact ⟨hk,trivial,by first|(rw [zia hk,hg5_7,Bool.true_or];exact eA)|(rw [zia hk,hg5_7,Bool.false_or];exact eA)⟩
  ·refine rn ?_;refine z7 rfl (j8 (g:=bv) (enc:=intK) (k:=h.evs[k].t) rfl rfl rfl ?_)
   refine rn ?_;exact ⟨hk,trivial,by first|(rw [zia hk,hg5_7,Bool.true_or];exact eA)|(rw [zia hk,hg5_7,Bool.false_or];exact eA)⟩
 ·have qk:=zdg hc19 lk
  subst qk
  rw [List.take_length]
  refine rn ?_;refine zl1 h.evs.length (fun k s=>⟨[(41,iv k),(8,.v s.v),(1,iv x),(5,.v (.map (some bm))),(39,zyn h.evs),(40,iv (h.evs.map evR).length)],.row s.v 1 3 ((((h.evs.take k).filter (wrB h.evs x)).map Ev.t).map za9):: .map bm (j9 intK (zau bv (yd0 h.evs))):: .box bl 252 (zbq h)::G,[]⟩) ⟨none,0,0⟩ (v6 (za1 1 3) es) ?_
  intro k s lk
  refine rn ?_;refine y0 rfl (fun hc42=> ?_) (fun hc42=> ?_)
  ·have hk:=zde hc42
   have rk:=zbn (f:=evR) hk
   refine rn ?_;refine z7 rfl (y7 rfl fun b10=> ?_)
   refine rn ?_;refine u0 (fun hg11_3=> ?_) (fun hg11_3=> ?_)
   ·refine rn ?_;refine u0 (fun hg11_9=> ?_) (fun hg11_9=> ?_)
    ·refine q1 ?_;refine q1 ?_;refine q1 ?_;refine qq rfl rfl (za0 (enc:=intK) (k:=h.evs[k].t) false rfl rfl) ?_
     refine rn ?_;refine y0 rfl (fun hc59=> ?_) (fun hc59=> ?_)
     ·have hx:wrB h.evs x h.evs[k]=true:=by unfold wrB;rw [←zki];simp_all
      refine rn ?_;refine qv rfl rfl (w9 rfl rfl) ?_
      refine z7 rfl (j6 rfl rfl (by simp only [oM,List.length_cons,List.length_nil];have:=zyh (l:=h.evs) (k:=k) (p:=wrB h.evs x);omega) rfl (fun s64=> ?_) (zit [h.evs[k].t]))
      refine zam s64 fun sv hsv=> ?_
      subst hsv
      refine rn ?_;exact ⟨hk,sv,by rw [yne hk hx,List.map_append,List.map_append];exact eA⟩
     ·have hx:wrB h.evs x h.evs[k]=false:=by unfold wrB;rw [←zki];simp_all
      refine rn ?_;exact ⟨hk,s,by rw [yg3 hk hx];exact eA⟩
    ·refine rn ?_;refine zof rfl ?_;have hx:wrB h.evs x h.evs[k]=false:=by unfold wrB;rw [←zki];simp_all
     refine rn ?_;exact ⟨hk,s,by rw [yg3 hk hx];exact eA⟩
   ·refine rn ?_;refine zof rfl ?_;have hx:wrB h.evs x h.evs[k]=false:=by unfold wrB;rw [←zki];simp_all
    refine rn ?_;exact ⟨hk,s,by rw [yg3 hk hx];exact eA⟩
  ·have qk:=zdg hc42 lk
   subst qk
   refine rn ?_;refine z7 rfl (q7 rfl rfl (zey (y1.of_fun (zwf s _ (by have:=zyh (l:=h.evs) (k:=h.evs.length) (p:=wrB h.evs x);rw [oM];omega)))) rfl ?_)
   rintro _ _ ⟨rfl,rfl⟩
   refine rn ?_;refine z7 rfl (q7 rfl rfl (zf9 (y1.of_fun (zyy s _ (by rw [(zcc _).length_eq,oM];have:=zyh (l:=h.evs) (k:=h.evs.length) (p:=wrB h.evs x);omega)))) rfl ?_)
   rintro _ _ ⟨s',rfl,rfl⟩
   refine rn ?_;exact zal rfl (.trans zg9 (.drop1 _ _ _)) ⟨rfl,by rw [List.take_length];rfl⟩
theorem yka {f:Bool} (l:List Int) (n:Int) (hl:l.length≤4611686018427387904):y8 Tryz.prog 105 [.list f 1 (l.map za9),iv n] [] (fun r h'=>h'= []∧r=iv (zbh (fun a=>a==n) 0 l)):=by
 refine z6 Tryz.func105 rfl rfl rfl ?_
 refine rn ?_;refine yd6 (l.length) (fun k:Nat=>zbh (fun a=>a==n) 0 l=zbh (fun a=>a==n) k (l.drop k)) (fun k=> [(8,iv k)]) [(0,_),(1,_),(7,_)] (by simp) ?_
 intro k lk zk
 refine rn ?_;refine y0 rfl (fun hc9=> ?_) (fun hc9=> ?_)
 ·have hk:=zde hc9
  have rk:=zbn (f:=za9) hk
  refine rn ?_;refine y0 rfl (fun hc16=> ?_) (fun hc16=> ?_)
  ·refine rn ?_;refine rq 0 ?_
   exact ⟨rfl,congrArg iv (by rw [zk,List.drop_eq_getElem_cons hk,zbh,if_pos (by rw [beq_iff_eq] at hc16 ⊢;exact hc16.symm)])⟩
  ·refine rn ?_;exact ⟨hk,by rw [zk,List.drop_eq_getElem_cons hk,zbh,if_neg (fun q=>by rw [beq_iff_eq] at q;rw [q] at hc16;simp at hc16)],eA⟩
 ·have qk:=zdg hc9 lk
  refine rn ?_;refine rq 0 ?_
  exact ⟨rfl,congrArg iv (by rw [zk,qk,List.drop_length];rfl)⟩
theorem zp7 {f:Bool} (l:List Int) (n:Int) (hl:l.length≤4611686018427387904):y8 Tryz.prog 44 [.list f 1 (l.map za9),iv n] [] (fun r h'=>h'= []∧r=bv (l.contains n)):=by
 refine z6 Tryz.func44 rfl rfl rfl ?_
 refine rn ?_;refine qv rfl rfl (y4 rfl rfl (zax (yka _ _ hl) (Sbs.refl _))) ?_
 refine rn ?_;refine rq 0 ?_
 exact ⟨rfl,congrArg bv (by rw [zdw,zp6])⟩
theorem yi3 (f:List Int) (t:Int) (b:Nat) (G:List Res) (hl:f.length≤4611686018427387904):y8 Tryz.prog 342 [iv t,pZ b] (.box b 29 [za6 f]::G) (fun r h'=>h'= .box b 29 [za6 f]::G∧r=bv (!f.contains t)):=by
 refine z6 Tryz.func342 rfl rfl rfl ?_
 refine rn ?_;refine qv rfl rfl (y4 rfl rfl (zax (zp7 _ _ hl) (Sbs.refl _))) ?_
 refine rn ?_;refine rq 0 ?_
 exact ⟨rfl,rfl⟩
theorem yi4 (ts f:List Int) (hl:ts.length≤1000000) (hf:f.length≤4611686018427387904):y8 Tryz.prog 330 [za6 ts,za6 f] [] (fun r h'=>h'= []∧r=bv (zrd ts f)):=by
 refine z6 Tryz.func330 rfl rfl rfl ?_
 have hl':ts.length≤4611686018427387904:=Nat.le_trans hl (by decide)
 refine rn ?_;refine z7 rfl (w7 rfl rfl rfl fun b3=> ?_)
 refine rn ?_;refine z7 rfl (q7 rfl rfl (y1.new (y1.of_fun (zls (ts.map za9) (by simp;omega) (fun r hr=>by obtain ⟨n,_,rfl⟩:=List.mem_map.1 hr;rfl)))) rfl ?_)
 rintro _ _ ⟨_,⟨s,rfl,rfl⟩,rfl⟩
 show zb5 _ _ _ _ _ _ ⟨_,.row s 1 3 (ts.map za9):: [.box b3 29 [za6 f]],_⟩
 refine zam s fun sv hsv=> ?_
 subst hsv
 refine rn ?_;refine z7 rfl (q7 rfl rfl (zey (y1.of_fun (zwf sv ts (by omega)))) rfl ?_)
 rintro _ _ ⟨rfl,rfl⟩
 refine rn ?_;refine z7 rfl (q7 rfl rfl (zf9 (y1.of_fun (zyy sv (srt ts) (by rw [(zcc _).length_eq];omega)))) rfl ?_)
 rintro _ _ ⟨s',rfl,rfl⟩
 refine rn ?_;refine u0 (fun hg3_6=> ?_) (fun hg3_6=> ?_)
 ·refine rn ?_;refine qv rfl rfl (y4 rfl rfl (y1.of_fun (zgc ts _ _ [.row s'.v 1 3 ((zbi (srt ts)).map za9),.box b3 29 [za6 f]] (fun t _=>y1.qt (h2:= [_]) (y1.of_acall (fs:= []) (cs:= [pZ b3]) (yi3 f t b3 [] hf)) (zdo [_] [_])) hl'))) ?_
  refine rn ?_;refine rq 2 ?_
  exact ⟨rfl,congrArg bv (by unfold zrd;by_cases e:(zbi (srt ts)).length=ts.length <;> first|(simp_all;done)|(exfalso;simp at hg3_6;omega))⟩
 ·refine rn ?_;refine rq 2 ?_
  exact ⟨rfl,congrArg bv (by unfold zrd;by_cases e:(zbi (srt ts)).length=ts.length <;> first|(simp_all;done)|(exfalso;simp at hg3_6;omega))⟩
theorem yfm {f:Bool} (l:List H.Ord) (fv:AV) (w:Nat→H.Ord→Bool) (G:List Res) (hp:∀k (hk:k < l.length),y1 Tryz.prog fv [iv k,.agg (zeo l[k])] G (fun r h'=>h'=G∧r=bv (w k l[k]))) (hl:l.length≤1000000):y8 Tryz.prog 326 [.list f 2 (l.map zeo),fv] G (fun r h'=>h'=G∧r=za8 (zcx w 0 l)):=by
 refine z6 Tryz.func326 rfl rfl rfl ?_
 refine rn ?_;refine zby l.length (fun k=>zcx w 0 l=zcx w k (l.drop k)) (fun k=>⟨[(10,iv k),(1,fv),(8,.list f 2 (l.map zeo)),(9,iv (l.map zeo).length)],G,[]⟩) (by simp) es ?_
 intro k lk zk
 refine rn ?_;refine y0 rfl (fun hc11=> ?_) (fun hc11=> ?_)
 ·have hk:=zde hc11
  have rk:=zbn (f:=zeo) hk
  refine rn ?_;refine z7 rfl (y7 rfl fun b7=> ?_)
  refine rn ?_;refine qv rfl rfl (y4 rfl rfl (y1.qt (h2:= [_]) (hp k hk) (zdo [_] _))) ?_
  refine rn ?_;refine y0 rfl (fun hc18=> ?_) (fun hc18=> ?_)
  ·refine rn ?_;refine rq 1 ?_
   exact ⟨rfl,by rw [zfw hk zk (by simpa using hc18)];rfl⟩
  ·refine rn ?_;exact ⟨hk,zc2 hk zk (by simpa using hc18),eA⟩
 ·have qk:=zdg hc11 lk
  refine rn ?_;refine rq 0 ?_
  exact ⟨rfl,by rw [zhy qk zk];rfl⟩
theorem yfl {f:Bool} (l:List ByteArray) (fv:AV) (w:Nat→ByteArray→Bool) (G:List Res) (hp:∀k (hk:k < l.length),y1 Tryz.prog fv [iv k,sv l[k]] G (fun r h'=>h'=G∧r=bv (w k l[k]))) (hl:l.length≤1000000):y8 Tryz.prog 331 [.list f 1 (l.map zfk),fv] G (fun r h'=>h'=G∧r=za8 (zcx w 0 l)):=by
 refine z6 Tryz.func331 rfl rfl rfl ?_
 refine rn ?_;refine zby l.length (fun k=>zcx w 0 l=zcx w k (l.drop k)) (fun k=>⟨[(10,iv k),(1,fv),(8,.list f 1 (l.map zfk)),(9,iv (l.map zfk).length)],G,[]⟩) (by simp) es ?_
 intro k lk zk
 refine rn ?_;refine y0 rfl (fun hc11=> ?_) (fun hc11=> ?_)
 ·have hk:=zde hc11
  have rk:=zbn (f:=zfk) hk
  refine rn ?_;refine qv rfl rfl (y4 rfl rfl (hp k hk)) ?_
  refine rn ?_;refine y0 rfl (fun hc18=> ?_) (fun hc18=> ?_)
  ·refine rn ?_;refine rq 0 ?_
   exact ⟨rfl,by rw [zfw hk zk (by simpa using hc18)];rfl⟩
  ·refine rn ?_;exact ⟨hk,zc2 hk zk (by simpa using hc18),eA⟩
 ·have qk:=zdg hc11 lk
  refine rn ?_;refine rq 0 ?_
  exact ⟨rfl,by rw [zhy qk zk];rfl⟩
theorem yfn {f:Bool} (l:List Mat) (fv:AV) (w:Nat→Mat→Bool) (G:List Res) (hp:∀k (hk:k < l.length),y1 Tryz.prog fv [iv k,.agg (zee l[k])] G (fun r h'=>h'=G∧r=bv (w k l[k]))) (hl:l.length≤1000000):y8 Tryz.prog 334 [.list f 4 (l.map zee),fv] G (fun r h'=>h'=G∧r=za8 (zcx w 0 l)):=by
 refine z6 Tryz.func334 rfl rfl rfl ?_
 refine rn ?_;refine zby l.length (fun k=>zcx w 0 l=zcx w k (l.drop k)) (fun k=>⟨[(10,iv k),(1,fv),(8,.list f 4 (l.map zee)),(9,iv (l.map zee).length)],G,[]⟩) (by simp) es ?_
 intro k lk zk
 refine rn ?_;refine y0 rfl (fun hc11=> ?_) (fun hc11=> ?_)
 ·have hk:=zde hc11
  have rk:=zbn (f:=zee) hk
  refine rn ?_;refine z7 rfl (y7 rfl fun b7=> ?_)
  refine rn ?_;refine qv rfl rfl (y4 rfl rfl (y1.qt (h2:= [_]) (hp k hk) (zdo [_] _))) ?_
  refine rn ?_;refine y0 rfl (fun hc18=> ?_) (fun hc18=> ?_)
  ·refine rn ?_;refine rq 1 ?_
   exact ⟨rfl,by rw [zfw hk zk (by simpa using hc18)];rfl⟩
  ·refine rn ?_;exact ⟨hk,zc2 hk zk (by simpa using hc18),eA⟩
 ·have qk:=zdg hc11 lk
  refine rn ?_;refine rq 0 ?_
  exact ⟨rfl,by rw [zhy qk zk];rfl⟩
theorem yfk {f:Bool} (l:List Wan) (fv:AV) (w:Nat→Wan→Bool) (G:List Res) (hp:∀k (hk:k < l.length),y1 Tryz.prog fv [iv k,.agg (zfo l[k])] G (fun r h'=>h'=G∧r=bv (w k l[k]))) (hl:l.length≤1000000):y8 Tryz.prog 337 [.list f 2 (l.map zfo),fv] G (fun r h'=>h'=G∧r=za8 (zcx w 0 l)):=by
 refine z6 Tryz.func337 rfl rfl rfl ?_
 refine rn ?_;refine zby l.length (fun k=>zcx w 0 l=zcx w k (l.drop k)) (fun k=>⟨[(10,iv k),(1,fv),(8,.list f 2 (l.map zfo)),(9,iv (l.map zfo).length)],G,[]⟩) (by simp) es ?_
 intro k lk zk
 refine rn ?_;refine y0 rfl (fun hc11=> ?_) (fun hc11=> ?_)
 ·have hk:=zde hc11
  have rk:=zbn (f:=zfo) hk
  refine rn ?_;refine z7 rfl (y7 rfl fun b7=> ?_)
  refine rn ?_;refine qv rfl rfl (y4 rfl rfl (y1.qt (h2:= [_]) (hp k hk) (zdo [_] _))) ?_
  refine rn ?_;refine y0 rfl (fun hc18=> ?_) (fun hc18=> ?_)
  ·refine rn ?_;refine rq 1 ?_
   exact ⟨rfl,by rw [zfw hk zk (by simpa using hc18)];rfl⟩
  ·refine rn ?_;exact ⟨hk,zc2 hk zk (by simpa using hc18),eA⟩
 ·have qk:=zdg hc11 lk
  refine rn ?_;refine rq 0 ?_
  exact ⟨rfl,by rw [zhy qk zk];rfl⟩
theorem yaw (p r:H.Ord) (b:Nat) (G:List Res):y8 Tryz.prog 329 [.agg (zeo p),pZ b] (.box b 87 (zeo r)::G) (fun x h'=>h'= .box b 87 (zeo r)::G∧x=bv (p.o==r.o)):=by
 refine z6 Tryz.func329 rfl rfl rfl ?_
 refine rn ?_;refine z7 rfl (w7 rfl rfl rfl fun b2=> ?_)
 refine rn ?_;refine rq 1 ?_
 exact ⟨rfl,congrArg bv (by first|rfl|(simp_all;done))⟩
theorem yay (p r:Mat) (b:Nat) (G:List Res):y8 Tryz.prog 336 [.agg (zee p),pZ b] (.box b 109 (zee r)::G) (fun x h'=>h'= .box b 109 (zee r)::G∧x=bv (p.p==r.p && p.o==r.o)):=by
 refine z6 Tryz.func336 rfl rfl rfl ?_
 refine rn ?_;refine z7 rfl (w7 rfl rfl rfl fun b2=> ?_)
 refine rn ?_;refine u0 (fun hg1_5=> ?_) (fun hg1_5=> ?_)
 ·refine rn ?_;refine rq 1 ?_
  exact ⟨rfl,congrArg bv (by first|rfl|(simp_all;done))⟩
 ·refine rn ?_;refine rq 1 ?_
  exact ⟨rfl,congrArg bv (by first|rfl|(simp_all;done))⟩
theorem yfi (p r:Wan) (b:Nat) (G:List Res):y8 Tryz.prog 340 [.agg (zfo p),pZ b] (.box b 111 (zfo r)::G) (fun x h'=>h'= .box b 111 (zfo r)::G∧x=bv (p.s==r.s)):=by
 refine z6 Tryz.func340 rfl rfl rfl ?_
 refine rn ?_;refine z7 rfl (w7 rfl rfl rfl fun b2=> ?_)
 refine rn ?_;refine rq 1 ?_
 exact ⟨rfl,congrArg bv (by first|rfl|(simp_all;done))⟩
theorem yfj (e:Ev) (r:Wan) (b:Nat) (G:List Res):y8 Tryz.prog 339 [.agg (evR e),pZ b] (.box b 111 (zfo r)::G) (fun x h'=>h'= .box b 111 (zfo r)::G∧x=bv (e.kind==1 && e.s==r.s)):=by
 refine z6 Tryz.func339 rfl rfl rfl ?_
 refine rn ?_;refine z7 rfl (w7 rfl rfl rfl fun b2=> ?_)
 refine rn ?_;refine u0 (fun hg1_3=> ?_) (fun hg1_3=> ?_)
 ·refine rn ?_;refine rq 1 ?_
  exact ⟨rfl,congrArg bv (by first|(simp_all;done)|(simp only [*];done))⟩
 ·refine rn ?_;refine rq 1 ?_
  exact ⟨rfl,congrArg bv (by first|(simp_all;done)|(simp only [*];done))⟩
theorem zut (r:H.Ord) (x:Int) (b:Nat) (G:List Res):y8 Tryz.prog 333 [.agg (zeo r),pZ b] (.box b 3 [iv x]::G) (fun z h'=>h'= .box b 3 [iv x]::G∧z=bv (r.o==x)):=by
 refine z6 Tryz.func333 rfl rfl rfl ?_
 refine rn ?_;refine z7 rfl (w7 rfl rfl rfl fun b2=> ?_)
 refine rn ?_;refine rq 1 ?_
 exact ⟨rfl,congrArg bv (by first|rfl|(simp_all;done))⟩
theorem yfo (h:Hist) (la:Lim 3000 h) (i:Nat) (hi:i≤h.ords.length) (r:H.Ord) (hr:r.ts.length≤3000) (bl bp:Nat) (G:List Res):y8 Tryz.prog 327 [iv i,.agg (zeo r),pZ bp] (.box bp 247 [pZ bl]:: .box bl 252 (zbq h)::G) (fun x h'=>h'=(.box bp 247 [pZ bl]:: .box bl 252 (zbq h)::G)∧x=bv (zf1 h i r)):=by
 refine z6 Tryz.func327 rfl rfl rfl ?_
 have bo:=la.ords
 refine rn ?_;refine z7 rfl (w7 rfl rfl rfl fun b4=> ?_)
 refine rn ?_;refine qv rfl rfl (y4 rfl rfl (y1.qt (h2:= .box b4 87 (zeo r):: .box bp 247 [pZ bl]::G) (y1.of_fun (zns h la bl r.o [])) (pt2 _ _ _ _))) ?_
 refine q1 ?_;refine v8 (zak ?_)
 refine w8 (y6 ?_)
 refine q1 ?_;refine q1 ?_;refine q1 ?_;refine q1 ?_;refine q1 ?_;refine q1 ?_;refine qq rfl rfl (zeu (k:=i) rfl rfl (by rw [oM];omega)) ?_
 rw [←List.map_take]
 refine rn ?_;refine qv rfl rfl (y4 rfl rfl (y1.of_fun (zeb (h.ords.take i) _ _ (.box b4 87 (zeo r):: .box bp 247 [pZ bl]:: .box bl 252 (zbq h)::G) (fun p _=>y1.of_acall (fs:= []) (cs:= [pZ b4]) (yaw p r b4 (.box bp 247 [pZ bl]:: .box bl 252 (zbq h)::G))) (by rw [List.length_take];have:=la.ords;omega)))) ?_
 refine rn ?_;refine u0 (fun hg2_9=> ?_) (fun hg2_9=> ?_)
 ·refine rn ?_;refine rq 1 ?_
  exact ⟨rfl,congrArg bv (by unfold zf1;first|(simp only [hg2_9,hg2_16,oM,zix,Bool.not_true,Bool.not_false,Bool.true_or,Bool.or_true,Bool.false_or];done)|(simp only [hg2_9,Bool.true_or];done)|(simp_all [zix];done))⟩
 ·refine rn ?_;refine qv rfl rfl (y4 rfl rfl (zax (yi4 r.ts (zao h.evs r.o) (Nat.le_trans hr (by decide)) (Nat.le_trans (zih h.evs r.o) (Nat.le_trans la.evs (by decide)))) (Sbs.refl _))) ?_
  refine rn ?_;refine u0 (fun hg2_16=> ?_) (fun hg2_16=> ?_)
  ·refine rn ?_;refine rq 1 ?_
   exact ⟨rfl,congrArg bv (by unfold zf1;first|(simp only [hg2_9,hg2_16,oM,zix,Bool.not_true,Bool.not_false,Bool.true_or,Bool.or_true,Bool.false_or];done)|(simp only [hg2_9,Bool.true_or];done)|(simp_all [zix];done))⟩
  ·refine rn ?_;refine rq 1 ?_
   exact ⟨rfl,congrArg bv (by unfold zf1;first|(simp only [hg2_9,hg2_16,oM,zix,Bool.not_true,Bool.not_false,Bool.true_or,Bool.or_true,Bool.false_or];done)|(simp only [hg2_9,Bool.true_or];done)|(simp_all [zix];done))⟩
theorem yfp (h:Hist) (la:Lim 3000 h) (i:Nat) (hi:i≤h.mats.length) (r:Mat) (hr:r.ts.length≤3000) (bl bp:Nat) (G:List Res):y8 Tryz.prog 335 [iv i,.agg (zee r),pZ bp] (.box bp 247 [pZ bl]:: .box bl 252 (zbq h)::G) (fun x h'=>h'=(.box bp 247 [pZ bl]:: .box bl 252 (zbq h)::G)∧x=bv (zjk h i r)):=by
 refine z6 Tryz.func335 rfl rfl rfl ?_
 have bo:=la.mats
 refine rn ?_;refine z7 rfl (w7 rfl rfl rfl fun b4=> ?_)
 refine rn ?_;refine j4 16 rfl ?_
 refine dq rfl rfl qrA ?_;refine dq rfl rfl qrA ?_;refine dq rfl rfl qrA ?_;refine dq rfl rfl qrA ?_;refine dq rfl rfl qrA ?_;refine dq rfl rfl qrA ?_;refine dq rfl rfl (zeu (k:=i) rfl rfl (by rw [oM];omega)) ?_
 rw [←List.map_take]
 refine rn ?_;refine dv rfl rfl (by exact y4 rfl rfl (y1.of_fun (zgb (h.mats.take i) _ _ (.box b4 109 (zee r):: .box bp 247 [pZ bl]:: .box bl 252 (zbq h)::G) (fun p _=>y1.of_acall (fs:= []) (cs:= [pZ b4]) (yay p r b4 (.box bp 247 [pZ bl]:: .box bl 252 (zbq h)::G))) (by rw [List.length_take];have:=la.mats;omega)))) ?_
 refine rn ?_;refine zcu (fun hg2_9=> ?_) (fun hg2_9=> ?_)
 ·refine rn ?_;refine rq 1 ?_
  exact ⟨rfl,congrArg bv (by unfold zjk;simp_all)⟩
 ·refine rn ?_;refine dv rfl rfl (by exact y4 rfl rfl (y1.qt (h2:= .box b4 109 (zee r):: .box bp 247 [pZ bl]::G) (y1.of_fun (zns h la bl r.o [])) (pt2 _ _ _ _))) ?_
  refine rn ?_;refine qv rfl rfl (y4 rfl rfl (zax (yi4 r.ts (zao h.evs r.o) (Nat.le_trans hr (by decide)) (Nat.le_trans (zih h.evs r.o) (Nat.le_trans la.evs (by decide)))) (Sbs.refl _))) ?_
  refine rn ?_;refine rq 1 ?_
  exact ⟨rfl,congrArg bv (by unfold zjk;simp_all)⟩
theorem yiw (h:Hist) (la:Lim 3000 h) (i:Nat) (hi:i≤h.wants.length) (r:Wan) (bl bp:Nat) (G:List Res):y8 Tryz.prog 338 [iv i,.agg (zfo r),pZ bp] (.box bp 247 [pZ bl]:: .box bl 252 (zbq h)::G) (fun x h'=>h'=(.box bp 247 [pZ bl]:: .box bl 252 (zbq h)::G)∧x=bv (zqs h i r)):=by
 refine z6 Tryz.func338 rfl rfl rfl ?_
 have bo:=la.wants
 refine rn ?_;refine z7 rfl (w7 rfl rfl rfl fun b4=> ?_)
 refine q1 ?_;refine v8 (zak ?_)
 refine w8 (y6 ?_)
 refine q1 ?_;refine q1 ?_;refine v8 (zak ?_)
 refine w8 (y6 ?_)
 refine q1 ?_;refine q1 ?_;refine q1 ?_;refine q1 ?_;refine q1 ?_;refine q1 ?_;refine qq rfl rfl (zeu (k:=i) rfl rfl (by rw [oM];omega)) ?_
 rw [←List.map_take]
 refine rn ?_;refine qv rfl rfl (y4 rfl rfl (y1.of_fun (zga (h.wants.take i) _ _ (.box b4 111 (zfo r):: .box bp 247 [pZ bl]:: .box bl 252 (zbq h)::G) (fun p _=>y1.of_acall (fs:= []) (cs:= [pZ b4]) (yfi p r b4 (.box bp 247 [pZ bl]:: .box bl 252 (zbq h)::G))) (by rw [List.length_take];have:=la.wants;omega)))) ?_
 refine rn ?_;refine u0 (fun hg2_9=> ?_) (fun hg2_9=> ?_)
 ·refine rn ?_;refine rq 1 ?_
  exact ⟨rfl,congrArg bv (by unfold zqs;simp_all)⟩
 ·refine rn ?_;refine qv rfl rfl (y4 rfl rfl (y1.of_fun (zg4 h.evs _ _ (.box b4 111 (zfo r):: .box bp 247 [pZ bl]:: .box bl 252 (zbq h)::G) (fun e _=>y1.of_acall (fs:= []) (cs:= [pZ b4]) (yfj e r b4 (.box bp 247 [pZ bl]:: .box bl 252 (zbq h)::G))) (Nat.le_trans la.evs (by decide))))) ?_
  refine rn ?_;refine rq 1 ?_
  exact ⟨rfl,congrArg bv (by unfold zqs;simp_all)⟩
theorem zw3 (h:Hist) (la:Lim 3000 h) (x:Int) (s:ByteArray) (bl bp:Nat) (G:List Res):y8 Tryz.prog 332 [iv x,sv s,pZ bp] (.box bp 247 [pZ bl]:: .box bl 252 (zbq h)::G) (fun z h'=>h'=(.box bp 247 [pZ bl]:: .box bl 252 (zbq h)::G)∧z=bv (znx h x)):=by
 refine z6 Tryz.func332 rfl rfl rfl ?_
 refine rn ?_;refine z7 rfl (w7 rfl rfl rfl fun b3=> ?_)
 refine rn ?_;refine qv rfl rfl (y4 rfl rfl (y1.qt (h2:= .box b3 3 [iv x]:: .box bp 247 [pZ bl]::G) (y1.of_fun (zns h la bl x [])) (pt2 _ _ _ _))) ?_
 refine rn ?_;refine u0 (fun hg1_5=> ?_) (fun hg1_5=> ?_)
 ·refine rn ?_;refine qv rfl rfl (y4 rfl rfl (y1.of_fun (zeb h.ords _ _ (.box b3 3 [iv x]:: .box bp 247 [pZ bl]:: .box bl 252 (zbq h)::G) (fun r _=>y1.of_acall (fs:= []) (cs:= [pZ b3]) (zut r x b3 (.box bp 247 [pZ bl]:: .box bl 252 (zbq h)::G))) (Nat.le_trans la.ords (by decide))))) ?_
  refine rn ?_;refine rq 1 ?_
  exact ⟨rfl,congrArg bv (by unfold znx;by_cases e:1 < (zao h.evs x).length <;> first|(simp_all;done)|(simp [e];done)|(exfalso;simp at hg1_5;omega))⟩
 ·refine rn ?_;refine rq 1 ?_
  exact ⟨rfl,congrArg bv (by unfold znx;by_cases e:1 < (zao h.evs x).length <;> first|(simp_all;done)|(simp [e];done)|(exfalso;simp at hg1_5;omega))⟩
theorem yi2 (h:Hist) (la:Lim 3000 h) (bl:Nat) (G:List Res):y8 Tryz.prog 312 [pZ bl] (.box bl 252 (zbq h)::G) (fun r h'=>h'=G∧r=za8 (zb7 h 7)):=by
 refine z6 Tryz.func312 rfl rfl rfl ?_
 refine rn ?_;refine z7 rfl (w7 rfl rfl rfl fun b1=> ?_)
 refine rn ?_;refine qv rfl rfl (y4 rfl rfl (y1.of_fun (yfm h.ords (.fn (.func 327) [] [pZ b1]) (zf1 h) (.box b1 247 [pZ bl]:: .box bl 252 (zbq h)::G) (fun k hk=>y1.of_acall (fs:= []) (cs:= [pZ b1]) (yfo h la k (Nat.le_of_lt hk) _ (la.ordts _ (List.getElem_mem hk)) bl b1 G)) (Nat.le_trans la.ords (by decide))))) ?_
 obtain ⟨pi,pb,hpv⟩:∃i b,za8 (zcx (zf1 h) 0 h.ords)= .tup [iv i,bv b]:=zc4 _
 rw [hpv]
 refine rn ?_;refine rq 2 ?_
 exact ⟨rfl,hpv.symm⟩
theorem yax (h:Hist) (la:Lim 3000 h) (bl:Nat) (G:List Res):y8 Tryz.prog 313 [pZ bl] (.box bl 252 (zbq h)::G) (fun r h'=>h'=G∧r=za8 (zb7 h 8)):=by
 refine z6 Tryz.func313 rfl rfl rfl ?_
 refine rn ?_;refine z7 rfl (w7 rfl rfl rfl fun b1=> ?_)
 refine rn ?_;refine qv rfl rfl (y4 rfl rfl (y1.of_fun (yfl h.os (.fn (.func 332) [] [pZ b1]) (fun x _=>znx h (x:Nat)) (.box b1 247 [pZ bl]:: .box bl 252 (zbq h)::G) (fun k hk=>y1.of_acall (fs:= []) (cs:= [pZ b1]) (zw3 h la k _ bl b1 G)) (Nat.le_trans la.os (by decide))))) ?_
 obtain ⟨pi,pb,hpv⟩:∃i b,za8 (zcx (fun x _=>znx h (x:Nat)) 0 h.os)= .tup [iv i,bv b]:=zc4 _
 rw [hpv]
 refine rn ?_;refine rq 2 ?_
 exact ⟨rfl,hpv.symm⟩
theorem yi5 (h:Hist) (la:Lim 3000 h) (bl:Nat) (G:List Res):y8 Tryz.prog 314 [pZ bl] (.box bl 252 (zbq h)::G) (fun r h'=>h'=G∧r=za8 (zb7 h 9)):=by
 refine z6 Tryz.func314 rfl rfl rfl ?_
 refine rn ?_;refine z7 rfl (w7 rfl rfl rfl fun b1=> ?_)
 refine rn ?_;refine qv rfl rfl (y4 rfl rfl (y1.of_fun (yfn h.mats (.fn (.func 335) [] [pZ b1]) (zjk h) (.box b1 247 [pZ bl]:: .box bl 252 (zbq h)::G) (fun k hk=>y1.of_acall (fs:= []) (cs:= [pZ b1]) (yfp h la k (Nat.le_of_lt hk) _ (la.matts _ (List.getElem_mem hk)) bl b1 G)) (Nat.le_trans la.mats (by decide))))) ?_
 obtain ⟨pi,pb,hpv⟩:∃i b,za8 (zcx (zjk h) 0 h.mats)= .tup [iv i,bv b]:=zc4 _
 rw [hpv]
 refine rn ?_;refine rq 2 ?_
 exact ⟨rfl,hpv.symm⟩
theorem ymh (h:Hist) (la:Lim 3000 h) (bl:Nat) (G:List Res):y8 Tryz.prog 315 [pZ bl] (.box bl 252 (zbq h)::G) (fun r h'=>h'=G∧r=za8 (zb7 h 10)):=by
 refine z6 Tryz.func315 rfl rfl rfl ?_
 refine rn ?_;refine z7 rfl (w7 rfl rfl rfl fun b1=> ?_)
 refine rn ?_;refine qv rfl rfl (y4 rfl rfl (y1.of_fun (yfk h.wants (.fn (.func 338) [] [pZ b1]) (zqs h) (.box b1 247 [pZ bl]:: .box bl 252 (zbq h)::G) (fun k hk=>y1.of_acall (fs:= []) (cs:= [pZ b1]) (yiw h la k (Nat.le_of_lt hk) _ bl b1 G)) (Nat.le_trans la.wants (by decide))))) ?_
 obtain ⟨pi,pb,hpv⟩:∃i b,za8 (zcx (zqs h) 0 h.wants)= .tup [iv i,bv b]:=zc4 _
 rw [hpv]
 refine rn ?_;refine rq 2 ?_
 exact ⟨rfl,hpv.symm⟩
end Go.Proofs
