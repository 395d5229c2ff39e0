/- The abstract logic, part 15: rows of a function's own, read and written; freezing; small operations more. Conditions: none (lemmas over any program). -/
import Derived.Test.YtcaijocpofcbdaaGreatDoorGBaB
import Derived.Laws.StructEq
import Derived.Maps.RangeRun
import Derived.WideKeyRuns
import Derived.MapKept
set_option linter.unusedSimpArgs false
set_option linter.unusedVariables false
namespace Go.Ab
open Go
theorem HRel.nilrow {X:Nat→Prop} {w:World} {h:List Res} (sz:Nat) (T:TypeId) (hh:HRel X w h):HRel X w (.row (.slice none 0 0) sz T []::h):=by
 have ho:u2 (.row (.slice none 0 0) sz T []::h)=u2 h:=by rw [q7];rfl
 have hO:OO (.row (.slice none 0 0) sz T []::h) X=OO h X:=by funext b;simp only [OO,ho]
 refine ⟨by rw [ho];exact hh.nodup,fun b hb=>hh.lt b (by rw [ho] at hb;exact hb),hh.xlt,fun r hr=> ?_⟩
 rw [hO]
 rcases List.mem_cons.1 hr with rfl|hr
 ·exact ⟨rfl,rfl,rfl⟩
 ·exact hh.holds r hr
theorem za1 {nt:Nat} {t:Fr} {h:List Res} {ds:List Nat} (sz:Nat) (T:TypeId):Ent nt ⟨t,h,ds⟩ ⟨t,.row (.slice none 0 0) sz T []::h,ds⟩:=by
 have ho:u2 (.row (.slice none 0 0) sz T []::h)=u2 h:=by rw [q7];rfl
 refine ⟨fun b hb=>by rw [ho] at hb;exact hb,fun X a w hs=>⟨hs.heap.nilrow sz T,hs.size,?_,hs.defs⟩⟩
 have hO:OO (.row (.slice none 0 0) sz T []::h) X=OO h X:=by funext b;simp only [OO,ho]
 show zen w (OO (.row (.slice none 0 0) sz T []::h) X) t a.tmps
 rw [hO];exact hs.fr
theorem k9 {h:List Res} (sz:Nat) (T:TypeId) (a:AV):zgi h a (.row (.slice none 0 0) sz T []::h) a:=by
 have ho:u2 (.row (.slice none 0 0) sz T []::h)=u2 h:=by rw [q7];rfl
 refine ⟨fun b hb=>by rw [ho] at hb;exact hb,fun X w v hh hr=>⟨hh.nilrow sz T,?_⟩⟩
 have hO:OO (.row (.slice none 0 0) sz T []::h) X=OO h X:=by funext b;simp only [OO,ho]
 rw [hO];exact hr
theorem zf7 {X:Nat→Prop} {w:World} {h:List Res} {s:Value} {sz:Nat} {T:TypeId} {rows:List (List AV)} (hh:HRel X w (.row s sz T rows::h)):Rel w (OO h X) (.list false sz rows) s:=by
 have hx:=hh.holds (.row s sz T rows) (by simp)
 cases s <;> try exact hx.elim
 rename_i a len cap
 cases a with
 |none=>obtain ⟨rfl,rfl,rfl⟩:=hx;exact .lnil _ _ _ _ (by simp)
 |some a=>
  obtain ⟨h1,h2,h3,h4,c,h5,h6,h7⟩:=hx
  obtain ⟨b,off,spot⟩:=a
  simp only at h1;subst h1;subst h2
  have hn:=hh.nodup
  rw [q7] at hn
  simp only [Res.own,List.singleton_append,List.nodup_cons] at hn
  have hb:=hh.lt b (by rw [q7];simp [Res.own])
  have hloose:∀av v,Rel w (OO (.row (.slice (some ⟨b,off,none⟩) rows.length cap) sz T rows::h) X) av v→Rel w (OO h X) av v:=fun av v r=>r.loose fun x hx=>hx.imp (fun h=>by rw [q7];exact List.mem_append_right _ h) id
  refine .list _ _ _ b off cap (fun i j=>c[off+i * sz+j]?.getD undef) (by simp) h3 (fun hm=>hm.elim hn.1 hb.2) hb.1 h4 (fun i hi j hj=> ?_) fun i hi j hj=> ?_
  ·obtain ⟨v,e,_⟩:=h7 i hi j hj
   simp only at e h5
   simp [World.cell?,h5,e]
  ·obtain ⟨v,e,r⟩:=h7 i hi j hj
   simp only at e
   rw [e];exact hloose _ _ r
theorem zj1 {h:List Res} {s:Value} {sz:Nat} {T:TypeId} {rows:List (List AV)}:zgi (.row s sz T rows::h) (.v s) h (.list false sz rows):=
 ⟨fun x hx=>by rw [q7];exact List.mem_append_right _ hx,fun X w v hh hr=>⟨HRel.drop (h:= [.row s sz T rows]) hh,by rw [hr.v_eq];exact zf7 hh⟩⟩
inductive SubZ (s:Value) (sz:Nat) (rows:List (List AV)) (t:Fr):Fr→Prop where
 |nil:SubZ s sz rows t []
 |cons (i:Nat) (a:AV) (r:Fr):lk t i=some a→SubZ s sz rows t r→SubZ s sz rows t ((i,a)::r)
 |row (i:Nat) (r:Fr):lk t i=some (.v s)→SubZ s sz rows t r→SubZ s sz rows t ((i,.list false sz rows)::r)
section
variable {P:Program} {ro:Option Nat} {nt:Nat} {h:List Res} {f:Operand→Option AV} {dst:Option Tmp} {ty:TypeId} {pos:String} {after:Array Edge} {guard:Option (Nat×Bool)} {x y z:Operand}
theorem zhe {X:Nat→Prop} {w:World} {s:Value} {sz i:Nat} {T:TypeId} {rows:List (List AV)} (hh:HRel X w h) (hr:h[i]? =some (.row s sz T rows)) (hne:rows≠ []):
 ∃b off cap c,s= .slice (some ⟨b,off,none⟩) rows.length cap∧w.heap[b]? =some (.cells c T (0,0))∧off+cap * sz≤c.size∧rows.length≤cap∧(∀k (hk:k < rows.length),rows[k].length=sz)∧
  ∀i (hi:i < rows.length) j (hj:j < rows[i].length),∃v,c[off+i * sz+j]? =some v∧Rel w (OO h X) rows[i][j] v:=by
 have hx:=hh.holds _ (List.mem_of_getElem? hr)
 cases s <;> try exact hx.elim
 rename_i a len cap
 cases a with
 |none=>obtain ⟨h1,_⟩:=hx;exact absurd h1 hne
 |some a=>
  obtain ⟨h1,h2,h3,h4,c,h5,h6,h7⟩:=hx
  obtain ⟨b,off,spot⟩:=a
  simp only at h1;subst h1;subst h2
  exact ⟨b,off,cap,c,rfl,h5,h6,h3,h4,h7⟩
theorem zl8 {T E:TypeId} {tys:List TypeId} {s:Value} {sz i:Nat} {E':TypeId} {rows:List (List AV)} (hx:f x=some (.v s)) [hr:HasRow h s i sz E' rows] [Und P T (.slice E)]:
 QR P h f ⟨dst,.call ⟨.builtin .len,[x].toArray,(T::tys).toArray⟩,ty,pos,after,guard⟩ (.v (.int .i64 rows.length)):=fun X ρ w he=>by
 obtain ⟨a,cap,es,_⟩:=zhf he.heap hr.h
 have hv:=(he.rel x _ hx).v_eq
 refine ⟨_,?_,.v _⟩
 simp only [execOp,resolve,List.map_toArray,List.map_cons,List.map_nil,hv,es,Sem.run_bind,Sem.run_pure,Result.andThen_ok,invoke,builtin,Builtin.len_,List.getElem?_toArray,List.getElem?_cons_zero,run_underlying (d:=TypeDesc.slice E)]
 rfl
theorem w9 {T E:TypeId} {s:Value} {sz i k:Nat} {E':TypeId} {rows:List (List AV)} (hx:f x=some (.v s)) (hy:f y=some (.v (.int .i64 k))) [hr:HasRow h s i sz E' rows] [Und P T (.slice E)] [Siz P E sz] (hk:k < rows.length):
 QR P h f ⟨dst,.indexAddr T x y,ty,pos,after,guard⟩ (.rp s sz k 0):=fun X ρ w he=>by
 obtain ⟨b,off,cap,c,es,h1,h2,h3,h4,h5⟩:=zhe he.heap hr.h (by intro e;simp [e] at hk)
 refine ⟨.pointer (some ⟨b,off+(k * sz+0),none⟩),run_v _ ?_,?_⟩
 ·rw [(he.rel x _ hx).v_eq,(he.rel y _ hy).v_eq,es]
  simp only [Instr.indexAt,asIntOf,Sem.run_bind,Sem.run_pure,Result.andThen_ok,run_underlying (d:=TypeDesc.slice E)]
  rw [if_pos (by omega)]
  simp only [Sem.run_bind,run_sizeOf (n:=sz),Result.andThen_ok,Sem.run_pure,zal,Int.toNat_natCast,Nat.add_zero]
 ·rw [es]
  have:=Rel.rp (w:=w) (O:=OO h X) ⟨b,off,none⟩ rows.length cap sz k 0
  rw [zal] at this;exact this
theorem zch {T:TypeId} {s:Value} {sz i k off:Nat} {E:TypeId} {rows:List (List AV)} {row:List AV} {av:AV} (hx:f x=some (.rp s sz k off)) [hr:HasRow h s i sz E rows] [IsA P T false] (hk:rows[k]? =some row) (hc:row[off]? =some av):
 QR P h f ⟨dst,.load T x,ty,pos,after,guard⟩ av:=fun X ρ w he=>by
 obtain ⟨hlt,e⟩:=List.getElem?_eq_some_iff.1 hk
 obtain ⟨hlt2,e2⟩:=List.getElem?_eq_some_iff.1 hc
 obtain ⟨b,o,cap,c,es,h1,h2,h3,h4,h5⟩:=zhe he.heap hr.h (by intro e;simp [e] at hlt)
 subst e
 obtain ⟨u,g1,g2⟩:=h5 k hlt off hlt2
 have hrel:=he.rel x _ hx
 rw [es] at hrel
 generalize hv:ρ x=v at hrel
 cases hrel with
 |rp _ _ _ _ _ _=>
  refine ⟨u,run_v _ ?_,by rw [←e2];exact g2⟩
  rw [hv,zal]
  simp only [Instr.loadAt,Instr.sureAddr,Sem.run_bind,Sem.run_pure,Result.andThen_ok]
  refine zcv ?_;simp only [World.cell?,h1,←Nat.add_assoc,g1];rfl
theorem zli {T:TypeId} {s:Value} {sz i k off n:Nat} {E:TypeId} {rows:List (List AV)} {row:List AV} (hx:f x=some (.rp s sz k off)) [hr:HasRow h s i sz E rows] [Siz P T n] [IsA P T true] (hk:rows[k]? =some row) (hle:off+n≤row.length):
 QR P h f ⟨dst,.load T x,ty,pos,after,guard⟩ (.agg ((row.drop off).take n)):=fun X ρ w he=>by
 obtain ⟨hlt,e⟩:=List.getElem?_eq_some_iff.1 hk
 obtain ⟨b,o,cap,c,es,h1,h2,h3,h4,h5⟩:=zhe he.heap hr.h (by intro e;simp [e] at hlt)
 subst e
 have hrel:=he.rel x _ hx
 rw [es] at hrel
 generalize hv:ρ x=v at hrel
 cases hrel with
 |rp _ _ _ _ _ _=>
  refine ⟨.agg ((List.range n).map fun j=>c[o+k * sz+(off+j)]?.getD undef).toArray,run_v _ ?_,.agg _ _ (by simp;omega) fun j a b'=> ?_⟩
  ·rw [hv,zal]
   simp only [Instr.loadAt,Instr.sureAddr,Sem.run_bind,Sem.run_pure,Result.andThen_ok]
   refine zcw (n:=n) _ fun j hj=> ?_
   obtain ⟨u,g1,g2⟩:=h5 k hlt (off+j) (by omega)
   simp only [World.cell?,h1]
   rw [show o+(k * sz+off)+j=o+k * sz+(off+j) by omega,g1];rfl
  ·have hj:j < n:=by simp at a;omega
   obtain ⟨u,g1,g2⟩:=h5 k hlt (off+j) (by omega)
   simpa [g1] using g2
theorem zag {T:TypeId} {s:Value} {sz i k off n:Nat} {E:TypeId} {rows:List (List AV)} {row cs:List AV} {av:AV} {t:Fr} {h':List Res} {ds:List Nat} {next:St→Prop} (hx:ev t x=some (.rp s sz k off)) (hy:ev t y=some av) (hc:av.cellsOf=some cs)
 [hr:HasRow h s i sz E rows] [Siz P T n] (hk:rows[k]? =some row) (hn:cs.length=n) (hle:off+n≤row.length) [hset:SetAt h i (.row s sz E (rows.set k (row.take off++cs++row.drop (off+n)))) h'] (hnext:next ⟨t,h',ds⟩):
 OE P ro nt ⟨none,.store T x y,ty,pos,after,guard⟩ ⟨t,h,ds⟩ next:=by
 refine ze3 rfl rfl (fun X a w hs=> ?_) hnext
 obtain ⟨hlt,e⟩:=List.getElem?_eq_some_iff.1 hk
 obtain ⟨b,o,cap,c,es,h1,h2,h3,h4,h5⟩:=zhe hs.heap hr.h (by intro e;simp [e] at hlt)
 subst e
 obtain ⟨g1,g2,g3⟩:=(hs.env.rel y _ hy).cells hc
 have hrel:=hs.env.rel x _ hx
 rw [es] at hrel
 generalize hv:a.eval x=v at hrel
 have hsz:=h4 k hlt
 have hmul:(k+1) * sz≤rows.length * sz:=Nat.mul_le_mul_right _ hlt
 have hmul2:rows.length * sz≤cap * sz:=Nat.mul_le_mul_right _ h3
 rw [Nat.add_mul] at hmul
 cases hrel with
 |rp _ _ _ _ _ _=>
  obtain ⟨w',f1,f2,f3,c',f4,f5,f6,ev⟩:=zbs (P:=P) (a.eval y).cells.toList (o+(k * sz+off)) 0 w c g3 h1 (by simp;omega)
  have hbown:b∈(Res.row s sz E rows).own:=by rw [es];simp [Res.own]
  have hkk:∀b',¬OO h X b'→b' < w.heap.size→w'.heap[b']? =w.heap[b']? ∧¬OO h X b':=fun b' hb' _=>⟨f3 b' (fun he=>hb' (.inl (j5.2 ⟨_,List.mem_of_getElem? hr.h,he ▸ hbown⟩))),hb'⟩
  have hoth:∀b',b' < w.heap.size→b' ∉ (Res.row s sz E rows).own→w'.heap[b']? =w.heap[b']? :=fun b' _ hne=>f3 b' fun he=>hne (he ▸ hbown)
  have hown:(Res.row s sz E (rows.set k (rows[k].take off++cs++rows[k].drop (off+n)))).own=(Res.row s sz E rows).own:=by rw [es];rfl
  have hlen2:(rows[k].take off++cs++rows[k].drop (off+n)).length=sz:=by simp;omega
  have hholds:(Res.row s sz E (rows.set k (rows[k].take off++cs++rows[k].drop (off+n)))).holds w' (OO h X):=by
   rw [es]
   refine ⟨rfl,by simp,h3,fun i hi=> ?_,c',f4,by simp only;omega,fun i hi j hj=> ?_⟩
   ·by_cases hik:k=i
    ·subst hik;simp [List.getElem_set_self];omega
    ·rw [List.getElem_set_ne hik];exact h4 i (by simpa using hi)
   ·have hi':i < rows.length:=by simpa using hi
    by_cases hik:k=i
    ·subst hik
     simp only [List.getElem_set_self] at hj ⊢
     have hj':j < sz:=by rw [←hlen2];exact hj
     by_cases hj1:j < off
     ·obtain ⟨u,q1,q2⟩:=h5 k hi' j (by omega)
      refine ⟨u,?_,?_⟩
      ·rw [f6,if_neg (by simp;omega)];exact q1
      ·have e1:(rows[k].take off++cs++rows[k].drop (off+n))[j]=rows[k][j]'(by omega):=by
        rw [List.getElem_append_left (by simp;omega),List.getElem_append_left (by simp;omega)];simp
       rw [e1];exact q2.keep (by omega) hkk
     ·by_cases hj2:j < off+n
      ·have hjc:j - off < (a.eval y).cells.size:=by omega
       refine ⟨(a.eval y).cells[j - off],?_,?_⟩
       ·rw [f6,if_pos (by simp;omega),show o+k * sz+j - (o+(k * sz+off)+0)=j - off by omega]
        simp [hjc]
       ·have e1:(rows[k].take off++cs++rows[k].drop (off+n))[j]=cs[j - off]'(by omega):=by
         rw [List.getElem_append_left (by simp;omega),List.getElem_append_right (by simp;omega)];simp [Nat.min_eq_left (show off≤rows[k].length by omega)]
        rw [e1];exact (g2 (j - off) (by omega) hjc).keep (by omega) hkk
      ·obtain ⟨u,q1,q2⟩:=h5 k hi' j (by omega)
       refine ⟨u,?_,?_⟩
       ·rw [f6,if_neg (by simp;omega)];exact q1
       ·have e1:(rows[k].take off++cs++rows[k].drop (off+n))[j]=rows[k][j]'(by omega):=by
         rw [List.getElem_append_right (by simp;omega),List.getElem_drop]
         congr 1;simp [Nat.min_eq_left (show off≤rows[k].length by omega)];omega
        rw [e1];exact q2.keep (by omega) hkk
    ·simp only [List.getElem_set_ne hik] at hj ⊢
     obtain ⟨u,q1,q2⟩:=h5 i hi' j hj
     have hj':j < sz:=by rw [←h4 i hi'];exact hj
     refine ⟨u,?_,q2.keep (by omega) hkk⟩
     have hcase:(i+1) * sz≤k * sz∨(k+1) * sz≤i * sz:=by
      rcases Nat.lt_or_gt_of_ne hik with h|h
      ·exact .inr (Nat.mul_le_mul_right _ h)
      ·exact .inl (Nat.mul_le_mul_right _ h)
     rw [Nat.add_mul,Nat.add_mul] at hcase
     show c'[o+i * sz+j]? =some u
     rw [f6,if_neg (by simp;omega)];exact q1
  refine ⟨w',?_,⟨?_,hs.size,?_,hs.defs⟩,?_⟩
  ·refine zv1 ?_;rw [hv,zal]
   simp only [Instr.storeAt,Instr.sureAddr,Sem.run_bind,Sem.run_pure,Result.andThen_ok,storeVar,run_sizeOf (n:=n)]
   rw [if_neg (by simp;omega)]
   simp only [Sem.run_bind,Sem.run_pure,Result.andThen_ok,f1]
  ·exact hset.h ▸ hs.heap.set hr.h hown (by omega) hoth hholds
  ·have hO:OO h' X=OO h X:=by funext b';rw [←hset.h];simp only [OO,zco hr.h hown]
   show zen w' (OO h' X) t a.tmps
   rw [hO];exact hs.fr.keep (by omega) hkk
  ·exact hset.h ▸ Keep.set hr.h hown (by omega) hoth ev
theorem zb6 {S T:TypeId} {k k':IntKind} {n m:Int} (hx:f x=some (.v (.int k n))) [hs:Und P S (.int k)] [ht:Und P T (.int k')] (hm:k'.wrap n=m):
 QR P h f ⟨dst,.convert S T x,ty,pos,after,guard⟩ (.v (.int k' m)):=fun X ρ w he=>by
 refine ⟨_,run_v _ ?_,.v _⟩
 rw [(he.rel x _ hx).v_eq]
 simp only [convert,Sem.run_bind,run_underlying (d:=TypeDesc.int k),run_underlying (d:=TypeDesc.int k'),Result.andThen_ok,Conv.intToInt,Sem.run_pure,hm]
class EqInts (P:Program) (T:TypeId) (n:outParam Nat):Prop where
 g:P.eqGuardType P.depth T=false
 q:∀(w:World) (xs ys:List Int),xs.length=n→ys.length=n→(Op.equalIn 10000 T (.agg (xs.map (.int .i64)).toArray) (.agg (ys.map (.int .i64)).toArray)).run P w= .ok (xs==ys) w
theorem EqInts.mk2 {P:Program} {T:TypeId} (g:P.eqGuardType P.depth T=false) (h:∀(w:World) (a b c d:Int),(Op.equalIn 10000 T (.agg #[.int .i64 a,.int .i64 b]) (.agg #[.int .i64 c,.int .i64 d])).run P w= .ok (a==c && b==d) w):EqInts P T 2:=
 ⟨g,fun w xs ys h1 h2=>match xs,ys,h1,h2 with
  | [a,b],[c,d],_,_=>(h w a b c d).trans (by simp)⟩
theorem EqInts.mk3 {P:Program} {T:TypeId} (g:P.eqGuardType P.depth T=false) (h:∀(w:World) (a b c d e f:Int),(Op.equalIn 10000 T (.agg #[.int .i64 a,.int .i64 b,.int .i64 c]) (.agg #[.int .i64 d,.int .i64 e,.int .i64 f])).run P w= .ok (a==d && (b==e && c==f)) w):EqInts P T 3:=
 ⟨g,fun w xs ys h1 h2=>match xs,ys,h1,h2 with
  | [a,b,c],[d,e,f],_,_=>(h w a b c d e f).trans (by simp)⟩
def zgn:List AV→Option (List Int)
 | []=>some []
 | .v (.int .i64 n)::r=>match zgn r with
   |some l=>some (n::l)
   |none=>none
 |_=>none
theorem zga {w:World} {O:Nat→Prop}:∀{cells:List AV} {xs:List Int} {c:Array Value},zgn cells=some xs→cells.length=c.size→(∀j (h1:j < cells.length) (h2:j < c.size),Rel w O cells[j] c[j])→c=(xs.map (Value.int .i64)).toArray:=by
 intro cells xs c h hl hr
 have:∀(cells:List AV) (xs:List Int) (cl:List Value),zgn cells=some xs→cells.length=cl.length→(∀j (h1:j < cells.length) (h2:j < cl.length),Rel w O cells[j] cl[j])→cl=xs.map (Value.int .i64):=by
  intro cells
  induction cells with
  |nil=>intro xs cl h hl _;cases h;cases cl with
   |nil=>rfl
   |cons a b=>simp at hl
  |cons a r ih=>
   intro xs cl h hl hr
   cases cl with
   |nil=>simp at hl
   |cons u us=>
    unfold zgn at h
    split at h
    ·rename_i heq;cases heq
    ·rename_i n r' heq
     cases heq
     split at h
     ·rename_i l hl2
      cases h
      have h0:=hr 0 (by simp) (by simp)
      simp only [List.getElem_cons_zero] at h0
      rw [List.map_cons,h0.v_eq,ih l us hl2 (by simpa using hl) fun j a b=>hr (j+1) (Nat.succ_lt_succ a) (Nat.succ_lt_succ b)]
     ·cases h
    ·cases h
 have h2:=this cells xs c.toList h (by simpa using hl) (fun j a b=>by simpa using hr j a (by simpa using b))
 rw [←h2]
theorem zc3:∀{cells:List AV} {xs:List Int},zgn cells=some xs→xs.length=cells.length
 | [],xs,h=>by cases h;rfl
 |a::r,xs,h=>by
  unfold zgn at h
  split at h
  ·rename_i heq;cases heq
  ·rename_i n r' heq
   cases heq
   split at h
   ·rename_i l hl;cases h;simp [zc3 hl]
   ·cases h
  ·cases h
theorem zz2 {T T':TypeId} {n:Nat} {cs ds:List AV} {xs ys:List Int} (hx:f x=some (.agg cs)) (hy:f y=some (.agg ds)) (h1:zgn cs=some xs) (h2:zgn ds=some ys) [he:EqInts P T n] (hn1:cs.length=n:=by rfl) (hn2:ds.length=n:=by rfl):
 QR P h f ⟨dst,.binOp .eql T x y T',ty,pos,after,guard⟩ (.v (.bool (xs==ys))):=fun X ρ w hev=>by
 have r1:=hev.rel x _ hx
 have r2:=hev.rel y _ hy
 generalize hu:ρ x=u at r1
 generalize hv:ρ y=v at r2
 cases r1 with
 |agg _ c a1 a2=>
  cases r2 with
  |agg _ d b1 b2=>
   refine ⟨_,run_v _ ?_,.v _⟩
   rw [hu,hv,zga h1 a1 a2,zga h2 b1 b2]
   simp only [Sem.run_bind,run_eqGuard_agg w .eql T x y _ _ he.g,Result.andThen_ok,run_eql_struct,he.q w xs ys (by rw [zc3 h1];exact hn1) (by rw [zc3 h2];exact hn2)]
theorem zsr {T T':TypeId} {n:Nat} {cs ds:List AV} {xs ys:List Int} (hx:f x=some (.agg cs)) (hy:f y=some (.agg ds)) (h1:zgn cs=some xs) (h2:zgn ds=some ys) [he:EqInts P T n] (hn1:cs.length=n:=by rfl) (hn2:ds.length=n:=by rfl):
 QR P h f ⟨dst,.binOp .neq T x y T',ty,pos,after,guard⟩ (.v (.bool (!(xs==ys)))):=fun X ρ w hev=>by
 have r1:=hev.rel x _ hx
 have r2:=hev.rel y _ hy
 generalize hu:ρ x=u at r1
 generalize hv:ρ y=v at r2
 cases r1 with
 |agg _ c a1 a2=>
  cases r2 with
  |agg _ d b1 b2=>
   refine ⟨_,run_v _ ?_,.v _⟩
   rw [hu,hv,zga h1 a1 a2,zga h2 b1 b2]
   simp only [Sem.run_bind,run_eqGuard_agg w .neq T x y _ _ he.g,Result.andThen_ok,run_neq_struct,he.q w xs ys (by rw [zc3 h1];exact hn1) (by rw [zc3 h2];exact hn2)]
end
end Go.Ab
set_option linter.unusedSectionVars false
namespace Go.Ab
open Go
def fK {K:Type} [DecidableEq K] (k:K):List K→List MapEntry→Nat→Option (Nat×Value)
 |k'::ks,e::es,i=>if k'=k then some (i,e.val) else fK k ks es (i+1)
 |_,_,_=>none
class KeyT (P:Program) (kt:TypeId) {K:Type} [DecidableEq K] (enc:K→Value):Prop where
 inj:∀a b,enc a=enc b→a=b
 stays:∀a,Instr.sameBits 10000 (enc a) (enc a)=true
 chk:∀(e:Bool) (w:World) (k:K),(Instr.checkKey e 10000 kt (enc k)).run P w= .ok () w
 find:∀(w:World) (k:K) (l:List MapEntry) (ks:List K),l.map (·.key)=ks.map enc→(Instr.findKey kt (enc k) l).run P w= .ok (fK k ks l 0) w
theorem zmm (a b:ByteArray):(a==b)=decide (a=b):=by
 by_cases h:a=b
 ·rw [(MapKept.bytes_beq a b).2 h];simp [h]
 ·have:(a==b)=false:=by
   cases hab:(a==b)
   ·rfl
   ·exact absurd ((MapKept.bytes_beq a b).1 hab) h
  rw [this];simp [h]
theorem zic {K:Type} [DecidableEq K] {enc:K→Value} {d:TypeDesc} (hs:∀a b,Instr.sameNow d (enc a) (enc b)=some (decide (a=b))) (k:K):
 ∀(l:List MapEntry) (ks:List K) (i:Nat),l.map (·.key)=ks.map enc→Instr.findNow d (enc k) l i=some (fK k ks l i)
 | [],[],_,_=>rfl
 |e::l,k'::ks,i,h=>by
  simp only [List.map_cons,List.cons.injEq] at h
  simp only [Instr.findNow,fK,h.1,hs]
  by_cases hk:k=k'
  ·simp [hk]
  ·simp [hk,Ne.symm hk,zic hs k l ks (i+1) h.2]
 | [],_::_,_,h=>by simp at h
 |_::_,[],_,h=>by simp at h
def zbm (n:Int):Value:= .int .i64 n
def zvp (s:ByteArray):Value:= .string s
def zda (p:Int×Int):Value:= .agg #[.int .i64 p.1,.int .i64 p.2]
instance KeyT.int {P:Program} {kt:TypeId} [hu:Und P kt (.int .i64)]:KeyT P kt zbm where
 inj:=fun a b h=>by simpa [zbm] using h
 stays:=fun a=>by simp [zbm,Instr.sameBits]
 chk:=fun e w k=>MapKept.run_checkKey hu.h (by simp [zbm,MapKept.IsKey]) e 9999
 find:=fun w k l ks h=>MapKept.run_findKey hu.h (zic (fun a b=>by simp [zbm,Instr.sameNow];rfl) k l ks 0 h)
instance KeyT.str {P:Program} {kt:TypeId} [hu:Und P kt .string]:KeyT P kt zvp where
 inj:=fun a b h=>by simpa [zvp] using h
 stays:=fun a=>by simp [zvp,Instr.sameBits,zmm]
 chk:=fun e w k=>MapKept.run_checkKey hu.h (by simp [zvp,MapKept.IsKey]) e 9999
 find:=fun w k l ks h=>MapKept.run_findKey hu.h (zic (fun a b=>by simp [zvp,Instr.sameNow,zmm]) k l ks 0 h)
class Chk2 (P:Program) (kt:TypeId):Prop where
 h:∀(e:Bool) (w:World) (a b:Int),(Instr.checkKey e 10000 kt (.agg #[.int .i64 a,.int .i64 b])).run P w= .ok () w
theorem zl5 {P:Program} {T:TypeId} {n:Nat} [he:EqInts P T n] (w:World) {xs ys:List Int} (h1:xs.length=n) (h2:ys.length=n):
 (Op.equal T (.agg (xs.map (.int .i64)).toArray) (.agg (ys.map (.int .i64)).toArray)).run P w= .ok (xs==ys) w:=he.q w xs ys h1 h2
theorem ze8 {P:Program} {kt:TypeId} {K:Type} [DecidableEq K] {enc:K→Value} (heq:∀w a b,(Op.equal kt (enc a) (enc b)).run P w= .ok (decide (a=b)) w) (k:K) (w:World):
 ∀(l:List MapEntry) (ks:List K) (i:Nat),l.map (·.key)=ks.map enc→(Instr.findAsking kt (enc k) l i).run P w= .ok (fK k ks l i) w
 | [],[],_,_=>rfl
 |e::l,k'::ks,i,h=>by
  simp only [List.map_cons,List.cons.injEq] at h
  simp only [Instr.findAsking,fK,h.1,Sem.run_bind,heq,Result.andThen_ok]
  by_cases hk:k=k'
  ·simp [hk]
  ·simp [hk,Ne.symm hk,ze8 heq k w l ks (i+1) h.2]
 | [],_::_,_,h=>by simp at h
 |_::_,[],_,h=>by simp at h
instance KeyT.int2 {P:Program} {kt:TypeId} [he:EqInts P kt 2] [hc:Chk2 P kt] [hi:IsA P kt true]:KeyT P kt zda where
 inj:=fun a b h=>by
  obtain ⟨a1,a2⟩:=a;obtain ⟨b1,b2⟩:=b
  simpa [zda] using h
 stays:=fun a=>by simp [zda,Instr.sameBits]
 chk:=fun e w k=>hc.h e w k.1 k.2
 find:=fun w k l ks h=>by
  obtain ⟨d,hd,hb⟩:=hi.h
  refine (congrArg (fun r=>r) (run_findKey_eq (P:=P) (w:=w) (k:=kt) (by rw [hd];cases d <;> simp [ynf] at hb ⊢) _ l)).trans ?_
  refine ze8 (fun w a b=> ?_) k w l ks 0 h
  have:=zl5 (P:=P) (T:=kt) w (xs:= [a.1,a.2]) (ys:= [b.1,b.2]) rfl rfl
  simp only [zda]
  refine this.trans ?_;obtain ⟨a1,a2⟩:=a;obtain ⟨b1,b2⟩:=b
  congr 1
  by_cases h1:a1=b1 <;> by_cases h2:a2=b2 <;> simp [h1,h2]
def j9 {K:Type} (enc:K→Value) (es:List (K×AV)):List (Value×AV):=es.map fun p=>(enc p.1,p.2)
def zc2 {K:Type} [DecidableEq K] (k:K):List (K×AV)→Option AV
 | []=>none
 |p::r=>if p.1=k then some p.2 else zc2 k r
def zlv {K:Type} [DecidableEq K] (k:K) (a:AV):List (K×AV)→List (K×AV)
 | []=> [(k,a)]
 |p::r=>if p.1=k then (p.1,a)::r else p::zlv k a r
theorem zk0 {K:Type} [DecidableEq K] (k:K):∀(es:List (K×AV)) (l:List MapEntry) (i:Nat),es.length=l.length→
 (fK k (es.map (·.1)) l i=none∧zc2 k es=none∧(∀a,zlv k a es=es++ [(k,a)]))∨
 ∃j,∃(h1:j < es.length) (h2:j < l.length),fK k (es.map (·.1)) l i=some (i+j,l[j].val)∧zc2 k es=some es[j].2∧es[j].1=k∧∀a,zlv k a es=es.set j (k,a)
 | [],[],i,_=> .inl ⟨rfl,rfl,fun _=>rfl⟩
 |p::es,e::l,i,hl=>by
  by_cases hk:p.1=k
  ·exact .inr ⟨0,by simp,by simp,by simp [fK,hk],by simp [zc2,hk],by simpa using hk,fun a=>by simp [zlv,hk]⟩
  ·rcases zk0 k es l (i+1) (by simpa using hl) with ⟨a,b,c⟩|⟨j,h1,h2,a,b,c,d⟩
   ·exact .inl ⟨by simp [fK,hk,a],by simp [zc2,hk,b],fun v=>by simp [zlv,hk,c]⟩
   ·exact .inr ⟨j+1,by simpa using h1,by simpa using h2,by simp [fK,hk,a];omega,by simp [zc2,hk,b],by simpa using c,fun v=>by simp [zlv,hk,d]⟩
 | [],_::_,_,h=>by simp at h
 |_::_,[],_,h=>by simp at h
theorem keys_of_holds {K:Type} {enc:K→Value} {es:List (K×AV)} {ents:Array MapEntry} {w:World} {O:Nat→Prop} (hl:(j9 enc es).length=ents.size)
 (hr:∀i (h1:i < (j9 enc es).length) (h2:i < ents.size),(j9 enc es)[i].1=ents[i].key∧Rel w O (j9 enc es)[i].2 ents[i].val):ents.toList.map (·.key)=(es.map (·.1)).map enc:=by
 have hl':es.length=ents.size:=by simpa [j9] using hl
 refine List.ext_getElem (by simp [hl']) fun i h1 h2=> ?_
 have:=(hr i (by simp [j9];simpa using h2) (by simpa using h1)).1
 simp [j9] at this ⊢
 exact this.symm
class KeyV (av:AV) (v:outParam Value):Prop where
 h:∀w O u,Rel w O av u→u=v
instance KeyV.v {x:Value}:KeyV (.v x) x:=⟨fun w O u r=>r.v_eq⟩
instance KeyV.int2 {a b:Int}:KeyV (.agg [.v (.int .i64 a),.v (.int .i64 b)]) (zda (a,b)):=⟨fun w O u r=>by
 cases r with
 |agg _ cs hl hr=>
  simp at hl
  have h0:=(hr 0 (by simp) (by omega)).v_eq
  have h1:=(hr 1 (by simp) (by omega)).v_eq
  simp only [zda]
  congr 1
  apply Array.ext
  ·simp [←hl]
  ·intro i hi hi2
   match i,hi,hi2 with
   |0,_,_=>exact h0
   |1,_,_=>exact h1
   |i+2,hi,hi2=>simp at hi2;omega⟩
section
variable {P:Program} {ro:Option Nat} {nt:Nat} {dst:Option Tmp} {ty:TypeId} {pos:String} {after:Array Edge} {guard:Option (Nat×Bool)} {x y z:Operand} {t:Fr} {h h':List Res} {ds:List Nat} {next:St→Prop} {f:Operand→Option AV}
 {K:Type} [DecidableEq K] {enc:K→Value} {es:List (K×AV)} {kt et T:TypeId} {r i:Nat} {k:K} {av:AV}
theorem zau {d:Tmp} (hlt:dok nt (some d)=true) (hk:∀r,next ⟨(d,.v (.map (some r)))::t,.map r (j9 enc [])::h,ds⟩):
 OE P ro nt ⟨some d,.makeMap T none,ty,pos,after,guard⟩ ⟨t,h,ds⟩ next:=by
 intro X a w K Q hs hK
 refine ⟨j7,?_⟩
 have e:(execOp a.eval (⟨some d,.makeMap T none,ty,pos,after,guard⟩:Oper)).run P w= .ok (.value (.map (some w.heap.size))) {w with heap:=w.heap.push (.map #[] 0)}:=by
  refine run_v _ ?_
  simp only [Option.map_none,Instr.makeMap,Sem.run_bind,Sem.run_pure,Result.andThen_ok,run_newObj]
 rw [zan rfl,e]
 have hx:Res.holds {w with heap:=w.heap.push (.map #[] 0)} (OO (.map w.heap.size []::h) X) (.map w.heap.size []):=
  ⟨#[],0,by simp,rfl,fun i h1 _=>by simp at h1,fun i h1=>by simp at h1,fun i j h1=>by simp at h1⟩
 have hk2:Keep (u2 h) w (u2 (.map w.heap.size []::h)) {w with heap:=w.heap.push (.map #[] 0)}:=Keep.alloc (h:=h) (.map #[] 0) (.map w.heap.size []) rfl
 have hh2:=hs.heap.alloc (.map #[] 0) (.map w.heap.size []) rfl hx
 refine hK _ _ _ (hk w.heap.size) (Sim.put (s:=⟨t,.map w.heap.size []::h,ds⟩) ⟨hh2,hs.size,hs.fr.keep hk2.size (fun b hb hl=>hk2.oo b hb hl),hs.defs⟩ hlt (.v _)) hk2
theorem zl4 {X:Nat→Prop} {w:World} {key z:Value} {ok:Bool} [hm:HasMap h r i (j9 enc es)] [hu:Und P T (.map kt et)] [hkt:KeyT P kt enc] [hz:ZerV P et z] (hh:HRel X w h) (he:key=enc k):
 ∃v,(Instr.lookup T (.map (some r)) key ok).run P w= .ok (if ok then .tuple #[v,.bool (zc2 k es).isSome] else v) w∧Rel w (OO h X) ((zc2 k es).getD (.v z)) v:=by
 obtain ⟨ents,clock,h1,h2,h3,h4,h5⟩:=hh.holds _ (List.mem_of_getElem? hm.h)
 subst he
 have hks:=keys_of_holds h2 h3
 have hl':es.length=ents.toList.length:=by simpa [j9] using h2
 have hfind:=hkt.find w k ents.toList (es.map (·.1)) hks
 simp only [Instr.lookup,Sem.run_bind,run_underlying (h:=hu),Result.andThen_ok,MapKept.run_getObj_map h1,Sem.run_pure,hkt.chk,hfind]
 rcases zk0 k es ents.toList 0 hl' with ⟨a,b,c⟩|⟨j,g1,g2,a,b,c,d⟩
 ·refine ⟨z,?_,by rw [b];exact .v _⟩
  rw [a,b]
  cases ok <;> simp [run_zeroValue hz.h]
 ·refine ⟨(ents[j]'(by simpa using g2)).val,?_,?_⟩
  ·rw [a,b]
   cases ok <;> simp
  ·rw [b]
   have:=(h3 j (by simpa [j9] using g1) (by simpa using g2)).2
   simpa [j9] using this
theorem zoo {kv:AV} {z:Value} (hx:f x=some (.v (.map (some r)))) (hy:f y=some kv) [hkv:KeyV kv (enc k)] [hm:HasMap h r i (j9 enc es)] [hu:Und P T (.map kt et)] [hkt:KeyT P kt enc] [hz:ZerV P et z]
 (hl:(zc2 k es).getD (.v z)=av):QR P h f ⟨dst,.lookup T x y false,ty,pos,after,guard⟩ av:=fun X ρ w hev=>by
 obtain ⟨v,e,hr⟩:=zl4 (P:=P) (T:=T) (kt:=kt) (et:=et) (enc:=enc) (k:=k) (es:=es) (r:=r) (ok:=false) hev.heap (hkv.h w _ _ (hev.rel y _ hy))
 refine ⟨v,run_v _ ?_,hl ▸ hr⟩
 rw [(hev.rel x _ hx).v_eq];simpa using e
theorem zt9 {kv:AV} {z:Value} {b:Bool} (hx:f x=some (.v (.map (some r)))) (hy:f y=some kv) [hkv:KeyV kv (enc k)] [hm:HasMap h r i (j9 enc es)] [hu:Und P T (.map kt et)] [hkt:KeyT P kt enc] [hz:ZerV P et z]
 (hl:(zc2 k es).getD (.v z)=av) (hb:(zc2 k es).isSome=b):QR P h f ⟨dst,.lookup T x y true,ty,pos,after,guard⟩ (.tup [av,.v (.bool b)]):=fun X ρ w hev=>by
 obtain ⟨v,e,hr⟩:=zl4 (P:=P) (T:=T) (kt:=kt) (et:=et) (enc:=enc) (k:=k) (es:=es) (r:=r) (ok:=true) hev.heap (hkv.h w _ _ (hev.rel y _ hy))
 refine ⟨.tuple #[v,.bool b],run_v _ ?_,.tup _ _ rfl fun j h1 h2=> ?_⟩
 ·rw [(hev.rel x _ hx).v_eq,e,hb];simp
 ·match j,h1,h2 with
  |0,_,_=>exact hl ▸ hr
  |1,_,_=>exact .v _
  |j+2,h1,_=>simp at h1;omega
theorem zfe {w:World} [hkt:KeyT P kt enc]:(Instr.keyThatStays (enc k) (enc k)).run P w= .ok (enc k) w:=by
 simp [Instr.keyThatStays,hkt.stays]
theorem ziq {kv:AV} (hx:ev t x=some (.v (.map (some r)))) (hy:ev t y=some kv) (hz:ev t z=some av) [hkv:KeyV kv (enc k)] [hm:HasMap h r i (j9 enc es)] [hu:Und P T (.map kt et)] [hkt:KeyT P kt enc]
 [hset:SetAt h i (.map r (j9 enc (zlv k av es))) h'] (hk:next ⟨t,h',ds⟩):OE P ro nt ⟨none,.mapUpdate T x y z,ty,pos,after,guard⟩ ⟨t,h,ds⟩ next:=by
 refine ze3 rfl rfl (fun X a w hs=> ?_) hk
 obtain ⟨ents,clock,h1,h2,h3,h4,h5⟩:=hs.heap.holds _ (List.mem_of_getElem? hm.h)
 have hrv:=hs.env.rel z _ hz
 have hks:=keys_of_holds h2 h3
 have hl':es.length=ents.toList.length:=by simpa [j9] using h2
 have hfind:=hkt.find w k ents.toList (es.map (·.1)) hks
 have hrun:∃ents' clock',(Instr.mapUpdate T (a.eval x) (a.eval y) (a.eval z)).run P w= .ok () {w with heap:=w.heap.setIfInBounds r (.map ents' clock')}∧
  (j9 enc (zlv k av es)).length=ents'.size∧(∀i (h1:i < (j9 enc (zlv k av es)).length) (h2:i < ents'.size),(j9 enc (zlv k av es))[i].1=ents'[i].key∧Rel w (OO h X) (j9 enc (zlv k av es))[i].2 ents'[i].val)∧
  (∀i (h:i < ents'.size),ents'[i].born < clock')∧(∀i j (hi:i < ents'.size) (hj:j < ents'.size),i < j→ents'[i].born < ents'[j].born):=by
  rw [(hs.env.rel x _ hx).v_eq,hkv.h w _ _ (hs.env.rel y _ hy)]
  simp only [Instr.mapUpdate,Sem.run_bind,run_underlying (h:=hu),Result.andThen_ok,MapKept.run_getObj_map h1,hkt.chk,hfind]
  rcases zk0 k es ents.toList 0 hl' with ⟨g,b,c⟩|⟨j,g1,g2,g,b,c,d⟩
  ·rw [g,c av]
   refine ⟨_,_,MapKept.run_setObj_map _ h1,by simp [j9,hl'],fun i a1 a2=> ?_,fun i a1=> ?_,fun i j a1 a2 a3=> ?_⟩
   ·simp only [j9,List.map_append,List.map_cons,List.map_nil,List.getElem_append,Array.getElem_push]
    by_cases hi:i < ents.size
    ·have:i < (List.map (fun p:K×AV=>(enc p.1,p.2)) es).length:=by simp;simp at hl';omega
     simp only [hi,this,dif_pos]
     exact h3 i (by simpa [j9] using this) hi
    ·have h9:¬i < (List.map (fun p:K×AV=>(enc p.1,p.2)) es).length:=by simp;simp at hl';omega
     simp only [hi,h9,dif_neg,not_false_eq_true,List.getElem_singleton]
     exact ⟨trivial,hrv⟩
   ·rw [Array.getElem_push]
    split
    ·have:=h4 i (by assumption);omega
    ·simp
   ·simp only [Array.size_push] at a1 a2
    rw [Array.getElem_push,Array.getElem_push]
    split <;> split
    ·exact h5 i j _ _ a3
    ·have:=h4 i (by assumption);simpa using this
    ·omega
    ·omega
  ·rw [g,d av]
   have hj:j < ents.size:=by simpa using g2
   have hkey:ents[j].key=enc k:=by
    have:=(h3 j (by simpa [j9] using g1) hj).1
    simp [j9] at this
    rw [←this,c]
   have hgd:((ents[j]?).map (·.key)).getD (enc k)=enc k:=by
    rw [Array.getElem?_eq_getElem hj];simp [hkey]
   simp only [Sem.run_bind,Nat.zero_add,hgd,zfe (P:=P) (kt:=kt),Result.andThen_ok]
   refine ⟨_,_,MapKept.run_setObj_map _ h1,by simp [j9];simpa using hl',fun i a1 a2=> ?_,fun i a1=> ?_,fun i j' a1 a2 a3=> ?_⟩
   ·simp only [Array.size_modify] at a2
    rw [Array.getElem_modify]
    simp only [j9,List.getElem_map,List.getElem_set]
    split
    ·exact ⟨rfl,hrv⟩
    ·have:=h3 i (by simpa [j9] using a1) a2
     simpa [j9] using this
   ·simp only [Array.size_modify] at a1
    rw [Array.getElem_modify]
    split <;> exact h4 i a1
   ·simp only [Array.size_modify] at a1 a2
    rw [Array.getElem_modify,Array.getElem_modify]
    split <;> split <;> exact h5 i j' a1 a2 a3
 obtain ⟨ents',clock',e,e1,e2,e3,e4⟩:=hrun
 have hlt:r < w.heap.size:=(Array.getElem?_eq_some_iff.1 h1).1
 have hoth:∀b,b≠r→(w.heap.setIfInBounds r (.map ents' clock'))[b]? =w.heap[b]? :=fun b hb=>by rw [Array.getElem?_setIfInBounds_ne (Ne.symm hb)]
 have hrown:OO h X r:= .inl (j5.2 ⟨_,List.mem_of_getElem? hm.h,by simp [Res.own]⟩)
 have hkk:∀b,¬OO h X b→b < w.heap.size→(w.heap.setIfInBounds r (.map ents' clock'))[b]? =w.heap[b]? ∧¬OO h X b:=fun b hb hl=>⟨hoth b (fun q=>hb (q ▸ hrown)),hb⟩
 have hholds:(Res.map r (j9 enc (zlv k av es))).holds {w with heap:=w.heap.setIfInBounds r (.map ents' clock')} (OO h X):=
  ⟨ents',clock',by simp [hlt],e1,fun i a1 a2=>⟨(e2 i a1 a2).1,(e2 i a1 a2).2.keep (by simp) hkk⟩,e3,e4⟩
 have hh2:=hs.heap.set (w':={w with heap:=w.heap.setIfInBounds r (.map ents' clock')}) hm.h (y:= .map r (j9 enc (zlv k av es))) rfl (by simp) (fun b hb hne=>hoth b (by simpa [Res.own] using hne)) hholds
 rw [hset.h] at hh2
 have hown:u2 h'=u2 h:=by rw [←hset.h];exact zco hm.h rfl
 have hkeep:Keep (u2 h) w (u2 h') {w with heap:=w.heap.setIfInBounds r (.map ents' clock')}:=⟨by simp,fun b hb ho=>⟨hoth b (fun q=>ho (q ▸ j5.2 ⟨_,List.mem_of_getElem? hm.h,by simp [Res.own]⟩)),by rw [hown];exact ho⟩,zg7.eq rfl rfl rfl (by first|exact Nat.le_refl _|exact Nat.le_succ _)⟩
 exact ⟨_,zv1 e,⟨hh2,hs.size,hs.fr.keep hkeep.size (fun b hb hl=>hkeep.oo b hb hl),hs.defs⟩,hkeep⟩
end
theorem getElem?_set_old {A:Type} {a:Array A} {r b:Nat} {x:A} (h:b≠r):(a.setIfInBounds r x)[b]? =a[b]? :=by rw [Array.getElem?_setIfInBounds_ne (Ne.symm h)]
section
variable {P:Program} {ro:Option Nat} {nt:Nat} {dst:Option Tmp} {ty:TypeId} {pos:String} {after:Array Edge} {guard:Option (Nat×Bool)} {x y z:Operand} {t:Fr} {h h':List Res} {ds:List Nat} {next:St→Prop} {f:Operand→Option AV}
theorem zwg {o:Oper} {d:Tmp} {ob:Obj} (hn:zao o=true) (hd:o.dst=some d) (hlt:dok nt (some d)=true) (hnc:∀c T f,ob≠ .cells c T f)
 (hrun:∀X a w,Sim X nt ⟨t,h,ds⟩ a w→(execOp a.eval o).run P w= .ok (.value (.pointer (some ⟨w.heap.size,0,none⟩))) {w with heap:=w.heap.push ob})
 (hk:∀b,next ⟨(d,pZ b)::t,.obj b ob::h,ds⟩):OE P ro nt o ⟨t,h,ds⟩ next:=by
 intro X a w K Q hs hK
 refine ⟨j7,?_⟩
 rw [zan hn,hrun X a w hs]
 have hx:Res.holds {w with heap:=w.heap.push ob} (OO (.obj w.heap.size ob::h) X) (.obj w.heap.size ob):=⟨by simp,hnc⟩
 have hk2:Keep (u2 h) w (u2 (.obj w.heap.size ob::h)) {w with heap:=w.heap.push ob}:=Keep.alloc (h:=h) ob (.obj w.heap.size ob) rfl
 have hh2:=hs.heap.alloc ob (.obj w.heap.size ob) rfl hx
 show K (a.put o.dst _) _
 rw [hd]
 exact hK _ _ _ (hk w.heap.size) (Sim.put (s:=⟨t,.obj w.heap.size ob::h,ds⟩) ⟨hh2,hs.size,hs.fr.keep hk2.size (fun b hb hl=>hk2.oo b hb hl),hs.defs⟩ hlt (.v _)) hk2
theorem zou {d:Tmp} {T:TypeId} {s:ByteArray} [hu:Und P T .string] (hx:ev t x=some (.v (.string s))) (hlt:dok nt (some d)=true)
 (hk:∀b,next ⟨(d,pZ b)::t,.obj b (.stringIter s 0)::h,ds⟩):OE P ro nt ⟨some d,.range T x,ty,pos,after,guard⟩ ⟨t,h,ds⟩ next:=by
 refine zwg (ob:= .stringIter s 0) rfl rfl hlt (by simp) (fun X a w hs=>run_v _ ?_) hk
 rw [(hs.env.rel x _ hx).v_eq]
 simp only [Instr.range,Sem.run_bind,run_underlying (h:=hu),Result.andThen_ok,Sem.run_pure,run_newObj]
class HasObj (h:List Res) (b:Nat) (i:outParam Nat) (o:outParam Obj):Prop where
 h:h[i]? =some (.obj b o)
instance HasObj.head {b:Nat} {o:Obj} {h:List Res}:HasObj (.obj b o::h) b 0 o:=⟨rfl⟩
theorem zq4 {d:Tmp} {b i p:Nat} {s:ByteArray} [hb:HasObj h b i (.stringIter s p)] [hset:SetAt h i (.obj b (.stringIter s (p+(Utf8.decode s p).2))) h'] (hx:ev t x=some (pZ b)) (hlt:dok nt (some d)=true)
 (hdone:¬p < s.size→next ⟨(d,.tup [.v (.bool false)])::t,h,ds⟩)
 (hgo:p < s.size→next ⟨(d,.tup [.v (.bool true),.v (.int .i64 p),.v (.int .i32 (Utf8.decode s p).1)])::t,h',ds⟩):
 OE P ro nt ⟨some d,.next x true,ty,pos,after,guard⟩ ⟨t,h,ds⟩ next:=by
 intro X a w K Q hs hK
 refine ⟨j7,?_⟩
 obtain ⟨hob,hnc⟩:=hs.heap.holds _ (List.mem_of_getElem? hb.h)
 have hgo':(getObj b).run P w= .ok (.stringIter s p) w:=by simp [getObj,Sem.run,hob]
 have hlb:b < w.heap.size:=(Array.getElem?_eq_some_iff.1 hob).1
 by_cases hp:p < s.size
 ·have e:(execOp a.eval (⟨some d,.next x true,ty,pos,after,guard⟩:Oper)).run P w= .ok (.value (.tuple #[.bool true,.int .i64 p,.int .i32 (Utf8.decode s p).1])) {w with heap:=w.heap.setIfInBounds b (.stringIter s (p+(Utf8.decode s p).2))}:=by
   refine run_v _ ?_
   rw [(hs.env.rel x _ hx).v_eq]
   have hset':(setObj b (.stringIter s (p+(Utf8.decode s p).2))).run P w= .ok () {w with heap:=w.heap.setIfInBounds b (.stringIter s (p+(Utf8.decode s p).2))}:=by simp [setObj,Sem.run,hob]
   simp only [Instr.next,Sem.run_bind,hgo',Result.andThen_ok,hp,if_true,hset',Sem.run_pure]
   rfl
  rw [zan rfl,e]
  have hown:OO h X b:= .inl (j5.2 ⟨_,List.mem_of_getElem? hb.h,by simp [Res.own]⟩)
  have hh2:=hs.heap.set (w':={w with heap:=w.heap.setIfInBounds b (.stringIter s (p+(Utf8.decode s p).2))}) hb.h (y:= .obj b (.stringIter s (p+(Utf8.decode s p).2))) rfl (by simp) (fun b' hb' hne=>getElem?_set_old (by simpa [Res.own] using hne)) ⟨by simp [hlb],by simp⟩
  rw [hset.h] at hh2
  have howns:u2 h'=u2 h:=by rw [←hset.h];exact zco hb.h rfl
  have hkeep:Keep (u2 h) w (u2 h') {w with heap:=w.heap.setIfInBounds b (.stringIter s (p+(Utf8.decode s p).2))}:=⟨by simp,fun b' hb' ho=>⟨getElem?_set_old (fun q=>ho (q ▸ j5.2 ⟨_,List.mem_of_getElem? hb.h,by simp [Res.own]⟩)),by rw [howns];exact ho⟩,zg7.eq rfl rfl rfl (by first|exact Nat.le_refl _|exact Nat.le_succ _)⟩
  refine hK _ _ _ (hgo hp) (Sim.put (s:=⟨t,h',ds⟩) ⟨hh2,hs.size,hs.fr.keep hkeep.size (fun b hb hl=>hkeep.oo b hb hl),hs.defs⟩ hlt (.tup _ _ rfl fun j h1 h2=> ?_)) hkeep
  match j,h1,h2 with
  |0,_,_=>exact .v _
  |1,_,_=>exact .v _
  |2,_,_=>exact .v _
  |j+3,h1,_=>simp at h1;omega
 ·have e:(execOp a.eval (⟨some d,.next x true,ty,pos,after,guard⟩:Oper)).run P w= .ok (.value (.tuple #[.bool false])) w:=by
   refine run_v _ ?_
   rw [(hs.env.rel x _ hx).v_eq]
   simp only [Instr.next,Sem.run_bind,hgo',Result.andThen_ok,hp,if_false,Sem.run_pure]
  rw [zan rfl,e]
  refine hK _ _ _ (hdone hp) (Sim.put (s:=⟨t,h,ds⟩) hs hlt (.tup _ _ rfl fun j h1 h2=> ?_)) (.refl _ _)
  match j,h1,h2 with
  |0,_,_=>exact .v _
  |j+1,h1,_=>simp at h1
theorem zz3 {r b i:Nat} {es:List (Value×AV)} {seen:List Nat} (hx:f x=some (pZ b)) (hi:i < es.length):
 QR P (.mapr r es b (i::seen)::h) f ⟨dst,.entry x,ty,pos,after,guard⟩ (.tup [.v es[i].1,es[i].2]):=fun X ρ w hev=>by
 obtain ⟨ents,clock,sa,h1,h2,h3,h4,h5,h6,h7,h8⟩:=hev.heap.holds (.mapr r es b (i::seen)) (by simp)
 obtain ⟨hie,hback⟩:=h8 i rfl
 have h3':=h3 i hi hie
 have hborn:∀i j (hi:i < ents.size) (hj:j < ents.size),ents[i].born=ents[j].born→i=j:=fun i j hi hj e=>by
  rcases Nat.lt_trichotomy i j with hlt|he|hlt
  ·have:=h5 i j hi hj hlt;omega
  ·exact he
  ·have:=h5 j i hj hi hlt;omega
 have hfind:ents.find? (·.born==ents[i].born)=some ents[i]:=by
  cases hf:ents.find? (·.born==ents[i].born) with
  |none=>
   rw [Array.find?_eq_none] at hf
   exact absurd (by simp) (hf ents[i] (Array.getElem_mem hie))
  |some e=>
   have hm:=Array.mem_of_find?_eq_some hf
   have hp:=Array.find?_some hf
   obtain ⟨j,hj,rfl⟩:=Array.getElem_of_mem hm
   simp only [beq_iff_eq] at hp
   have:=hborn j i hj hie hp
   subst this;rfl
 refine ⟨.tuple #[ents[i].key,ents[i].val],run_v _ ?_,.tup _ _ rfl fun j g1 g2=> ?_⟩
 ·rw [(hev.rel x _ hx).v_eq]
  have g1:(getObj b).run P w= .ok (.mapIter (some r) clock sa clock) w:=by simp [getObj,Sem.run,h6]
  simp only [Instr.entry,Sem.run_bind,g1,Result.andThen_ok,hback,MapKept.run_getObj_map h1,bne_self_eq_false,Bool.false_eq_true,if_false,hfind,Sem.run_pure]
 ·match j,g1,g2 with
  |0,_,_=>
   show Rel w _ (.v es[i].1) ents[i].key
   rw [h3'.1];exact .v _
  |1,_,_=>exact h3'.2
  |j+2,h1,_=>simp at h1;omega
end
def ybm (op:BinOp) (k:IntKind) (x y:Int):Option Int:=
 let a:=BitVec.ofInt k.bits x
 let b:=BitVec.ofInt k.bits y
 match op with
 | .and=>some (k.wrap (a &&& b).toNat)
 | .or=>some (k.wrap (a|||b).toNat)
 | .xor=>some (k.wrap (a ^^^ b).toNat)
 | .andNot=>some (k.wrap (a &&& ~~~b).toNat)
 | .add=>some (k.wrap (x+y))
 | .sub=>some (k.wrap (x - y))
 | .mul=>some (k.wrap (x * y))
 |_=>none
def zl0 (op:BinOp) (k:IntKind) (x y:Int):Option Int:=
 match op with
 | .shl=>some (k.wrap (x * 2 ^ (min y.toNat k.bits)))
 | .shr=>some (x.fdiv (2 ^ (min y.toNat k.bits)))
 |_=>none
section
variable {P:Program} {ro:Option Nat} {nt:Nat} {dst:Option Tmp} {ty:TypeId} {pos:String} {after:Array Edge} {guard:Option (Nat×Bool)} {x y z:Operand} {t:Fr} {h h':List Res} {ds:List Nat} {next:St→Prop} {f:Operand→Option AV}
theorem yer {op:BinOp} {T T':TypeId} {k:IntKind} {a b c:Int} (hx:f x=some (.v (.int k a))) (hy:f y=some (.v (.int k b))) (hc:ybm op k a b=some c):
 QR P h f ⟨dst,.binOp op T x y T',ty,pos,after,guard⟩ (.v (.int k c)):=fun X ρ w he=>by
 refine ⟨_,run_v _ ?_,.v _⟩
 rw [(he.rel x _ hx).v_eq,(he.rel y _ hy).v_eq,zez]
 cases op <;> simp only [ybm,Option.some.injEq,reduceCtorEq] at hc <;> subst hc <;> simp [binOp,Op.intArith,Op.intBits]
theorem ze1 {op:BinOp} {T T':TypeId} {k k':IntKind} {a b c:Int} (hx:f x=some (.v (.int k a))) (hy:f y=some (.v (.int k' b))) (hc:zl0 op k a b=some c) (hb:0≤b):
 QR P h f ⟨dst,.binOp op T x y T',ty,pos,after,guard⟩ (.v (.int k c)):=fun X ρ w he=>by
 refine ⟨_,run_v _ ?_,.v _⟩
 rw [(he.rel x _ hx).v_eq,(he.rel y _ hy).v_eq]
 have hb':¬b < 0:=by omega
 cases op <;> simp only [zl0,Option.some.injEq,reduceCtorEq] at hc <;> subst hc <;> simp [eqGuard,binOp,Op.shift,hb']
theorem zon {T T':TypeId} {a b:Bool} (hx:f x=some (.v (.bool a))) (hy:f y=some (.v (.bool b))) [hu:Und P T .bool]:
 QR P h f ⟨dst,.binOp .neq T x y T',ty,pos,after,guard⟩ (.v (.bool (!(a==b)))):=fun X ρ w he=>by
 refine ⟨_,run_v _ ?_,.v _⟩
 rw [(he.rel x _ hx).v_eq,(he.rel y _ hy).v_eq]
 have e:=run_eql_bool w T a b hu.h
 simp only [Sem.run_bind,eqGuard_at_bool,Sem.run_pure,Result.andThen_ok]
 simp only [binOp,Sem.run_bind] at e ⊢
 cases hq:(Op.equal T (.bool a) (.bool b)).run P w with
 |ok v w'=>rw [hq] at e;simp at e ⊢;exact ⟨by rw [e.1],e.2⟩
 |halt q w'=>rw [hq] at e;simp at e
end
theorem y3.quiet {P:Program} {fv:AV} {args:List AV} {G h h2:List Res} {R:AV→Prop} (p:h.Perm (G++h2)) (hc:y3 P fv args G (fun r h'=>h'=G∧R r)):y3 P fv args h (fun r h'=>h'=h∧R r):=by
 intro X w v vs hh hv ha
 refine (((hc.frame h2).perm p) X w v vs hh hv ha).mono ?_
 rintro e w' ⟨u,av,h',e1,⟨h1,rfl,rfl,hR⟩,hrel,hh',hk⟩
 exact ⟨u,av,h,e1,⟨rfl,hR⟩,by rw [zcr p];exact hrel,hh'.perm p.symm,⟨hk.size,fun b hb ho=>⟨(hk.same b hb ho).1,fun hm=>(hk.same b hb ho).2 ((zbq p).mem_iff.1 hm)⟩,hk.env⟩⟩
theorem y3.of_fun {P:Program} {f:FuncId} [Enters P f] {args:List AV} {h:List Res} {R:AV→List Res→Prop} (hc:y9 P f args h R):y3 P (.fn (.func f) [] []) args h R:=
 y3.of_acall (fs:= []) (cs:= []) (by simpa using hc)
inductive Sb:AV→AV→Prop where
 |refl (a:AV):Sb a a
 |any (a:AV):Sb a .any
 |nil (full:Bool) (sz:Nat):Sb (.v (.slice none 0 0)) (.list full sz [])
 |list (f f':Bool) (sz:Nat) (rows rows':List (List AV)):(f'=true→f=true)→rows.length=rows'.length→(∀i (h:i < rows.length) (h':i < rows'.length),rows[i].length=rows'[i].length)→
  (∀i (h:i < rows.length) (h':i < rows'.length) j (k:j < rows[i].length) (k':j < rows'[i].length),Sb rows[i][j] rows'[i][j])→Sb (.list f sz rows) (.list f' sz rows')
 |agg (cs ds:List AV):cs.length=ds.length→(∀j (k:j < cs.length) (k':j < ds.length),Sb cs[j] ds[j])→Sb (.agg cs) (.agg ds)
 |tup (cs ds:List AV):cs.length=ds.length→(∀j (k:j < cs.length) (k':j < ds.length),Sb cs[j] ds[j])→Sb (.tup cs) (.tup ds)
theorem Sb.rel {w:World} {O:Nat→Prop} {a b:AV} (s:Sb a b):∀{v:Value},Rel w O a v→Rel w O b v:=by
 induction s with
 |refl a=>exact fun r=>r
 |any a=>exact fun r=> .any _
 |nil full sz=>intro v r;rw [r.v_eq];exact .lnil _ _ _ _ (fun _=>rfl)
 |list f f' sz rows rows' h1 h2 h3 _ ih=>
  intro v r
  cases r with
  |lnil _ _ a cap hc=>
   have:rows'= []:=List.eq_nil_of_length_eq_zero (by simpa using h2.symm)
   subst this
   exact .lnil _ _ _ _ (fun h=>hc (h1 h))
  |list _ _ _ b off cap g g1 g2 g3 g4 g5 g6 g7=>
   rw [h2]
   refine .list f' sz rows' b off cap g (fun h=>by rw [←h2];exact g1 (h1 h)) (by omega) g3 g4 (fun i hi=> ?_) (fun i hi j hj=> ?_) (fun i hi j hj=> ?_)
   ·rw [←h3 i (by omega) hi];exact g5 i (by omega)
   ·exact g6 i (by omega) j (by rw [h3 i (by omega) hi];exact hj)
   ·exact ih i (by omega) hi j (by rw [h3 i (by omega) hi];exact hj) hj (g7 i (by omega) j (by rw [h3 i (by omega) hi];exact hj))
 |agg cs ds h1 _ ih=>
  intro v r
  cases r with
  |agg _ vs g1 g2=>exact .agg _ _ (by omega) fun j a b=>ih j (by omega) a (g2 j (by omega) b)
 |tup cs ds h1 _ ih=>
  intro v r
  cases r with
  |tup _ vs g1 g2=>exact .tup _ _ (by omega) fun j a b=>ih j (by omega) a (g2 j (by omega) b)
theorem Sb.le {h:List Res} {a b:AV} (s:Sb a b):Le h a b:=fun _ _ _ _ r=>s.rel r
def Sbs:List AV→List AV→Prop
 | [],[]=>True
 |a::aS,b::bs=>Sb a b∧Sbs aS bs
 |_,_=>False
theorem Sbs.len:∀{aS bs:List AV},Sbs aS bs→aS.length=bs.length
 | [],[],_=>rfl
 |_::_,_::_,h=>by simp [Sbs.len h.2]
 | [],_::_,h=>h.elim
 |_::_,[],h=>h.elim
theorem Sbs.get:∀{aS bs:List AV},Sbs aS bs→∀j (k:j < aS.length) (k':j < bs.length),Sb aS[j] bs[j]
 |_::_,_::_,h,0,_,_=>h.1
 |_::_,_::_,h,j+1,k,k'=>Sbs.get h.2 j (by simpa using k) (by simpa using k')
theorem Sbs.refl:∀(aS:List AV),Sbs aS aS
 | []=>trivial
 |a::aS=>⟨.refl a,Sbs.refl aS⟩
theorem Sb.aggs {aS bs:List AV} (h:Sbs aS bs):Sb (.agg aS) (.agg bs):= .agg _ _ h.len h.get
theorem Sb.tups {aS bs:List AV} (h:Sbs aS bs):Sb (.tup aS) (.tup bs):= .tup _ _ h.len h.get
theorem Sbs.les {h:List Res}:∀{aS bs:List AV},Sbs aS bs→Les h aS bs
 | [],[],_=>trivial
 |_::_,_::_,s=>⟨s.1.le,Sbs.les s.2⟩
 | [],_::_,s=>s.elim
 |_::_,[],s=>s.elim
theorem zbd {h:List Res} {a b c d:AV} (h1:Sb a c) (h2:Sb b d):zgi h (zd9 [a,b]) h (.tup [c,d]):= .le (Sb.tups (aS:= [a,b]) (bs:= [c,d]) ⟨h1,h2,trivial⟩).le
def Sbr:List (List AV)→List (List AV)→Prop
 | [],[]=>True
 |a::aS,b::bs=>Sbs a b∧Sbr aS bs
 |_,_=>False
theorem Sbr.len:∀{aS bs:List (List AV)},Sbr aS bs→aS.length=bs.length
 | [],[],_=>rfl
 |_::_,_::_,h=>by simp [Sbr.len h.2]
 | [],_::_,h=>h.elim
 |_::_,[],h=>h.elim
theorem Sbr.get:∀{aS bs:List (List AV)},Sbr aS bs→∀j (k:j < aS.length) (k':j < bs.length),Sbs aS[j] bs[j]
 |_::_,_::_,h,0,_,_=>h.1
 |_::_,_::_,h,j+1,k,k'=>Sbr.get h.2 j (by simpa using k) (by simpa using k')
theorem Sbr.refl:∀l:List (List AV),Sbr l l
 | []=>trivial
 |a::l=>⟨Sbs.refl a,Sbr.refl l⟩
theorem Sb.lists {f f':Bool} {sz:Nat} {rows rows':List (List AV)} (hf:f'=true→f=true) (h:Sbr rows rows'):Sb (.list f sz rows) (.list f' sz rows'):=
 .list _ _ _ _ _ hf h.len (fun i a b=>(h.get i a b).len) fun i a b j c d=>(h.get i a b).get j c d
theorem Sb.unfull {f:Bool} {sz:Nat} {rows:List (List AV)}:Sb (.list f sz rows) (.list false sz rows):= .lists (by simp) (.refl _)
section
variable {P:Program} {ro:Option Nat} {nt:Nat} {ops:Array Oper} {rest:List Oper} {Q:Exit→St→Prop} {t:Fr} {h:List Res} {ds:List Nat} {d:Nat}
theorem q8 {b:Bool} (h1:b=true→zca P ro nt ops rest Q ⟨(d,.v (.bool true))::t,h,ds⟩) (h2:b=false→zca P ro nt ops rest Q ⟨(d,.v (.bool false))::t,h,ds⟩):zca P ro nt ops rest Q ⟨(d,.v (.bool b))::t,h,ds⟩:=by
 cases b
 ·exact h2 rfl
 ·exact h1 rfl
end
theorem zaf {P:Program} {f:FuncId} [Enters P f] {args args':List AV} {h:List Res} {r:AV} (hc:y9 P f args' [] (fun x h'=>h'= []∧x=r)) (hs:Sbs args args'):y3 P (.fn (.func f) [] []) args h (fun x h'=>h'=h∧x=r):=
 (y3.pure (R:=fun x=>x=r) (y3.of_fun hc)).le hs.les
section
variable {P:Program} {ro:Option Nat} {nt:Nat} {dst:Option Tmp} {ty:TypeId} {pos:String} {after:Array Edge} {guard:Option (Nat×Bool)} {x y z:Operand} {t:Fr} {h h':List Res} {ds:List Nat} {next:St→Prop} {f:Operand→Option AV}
theorem zqy {T T':TypeId} {b n:Nat} {cells:List AV} (hx:f x=some (pZ b)) [hb:HasB h b T' cells] [Siz P T n] [IsA P T true]
 (hle:n=cells.length):QR P h f ⟨dst,.load T x,ty,pos,after,guard⟩ (.agg cells):=by
 have:=zgx (P:=P) (h:=h) (b:=b) (T':=T') (cells:=cells) (T:=T) (dst:=dst) (ty:=ty) (pos:=pos) (after:=after) (guard:=guard) hx (n:=n) (by omega)
 subst hle
 simpa using this
theorem zlk {T:TypeId} {n:Nat} {cells:List AV} (hx:f x=some (.pp cells)) [Siz P T n] [IsA P T true] (hle:n=cells.length):QR P h f ⟨dst,.load T x,ty,pos,after,guard⟩ (.agg cells):=by
 have:=zgk (P:=P) (h:=h) (T:=T) (dst:=dst) (ty:=ty) (pos:=pos) (after:=after) (guard:=guard) hx (n:=n) (by omega)
 subst hle
 simpa using this
theorem u4 {T:TypeId} {s:Value} {sz i k n:Nat} {E:TypeId} {rows:List (List AV)} {row:List AV} (hx:f x=some (.rp s sz k 0)) [hr:HasRow h s i sz E rows] [Siz P T n] [IsA P T true] (hk:rows[k]? =some row) (hle:n=row.length):
 QR P h f ⟨dst,.load T x,ty,pos,after,guard⟩ (.agg row):=by
 have:=zli (P:=P) (h:=h) (T:=T) (dst:=dst) (ty:=ty) (pos:=pos) (after:=after) (guard:=guard) hx (n:=n) hk (by omega)
 subst hle
 simpa using this
theorem za2 {T T':TypeId} {b i n:Nat} {av:AV} {cells cs:List AV} (hx:ev t x=some (pZ b)) (hy:ev t y=some av) (hc:av.cellsOf=some cs)
 [hb:HasBox h b i T' cells] [Siz P T n] [hset:SetAt h i (.box b T' cs) h'] (hk:next ⟨t,h',ds⟩) (hn:cs.length=n:=by rfl) (hle:n=cells.length:=by rfl):
 OE P ro nt ⟨none,.store T x y,ty,pos,after,guard⟩ ⟨t,h,ds⟩ next:=by
 have e:cells.take 0++cs++cells.drop (0+n)=cs:=by subst hle;simp
 have hs':SetAt h i (.box b T' (cells.take 0++cs++cells.drop (0+n))) h':=⟨by rw [e];exact hset.h⟩
 exact zby (n:=n) (hset:=hs') hx hy hc hn (by omega) hk
end
theorem y9.perm {P:Program} {f:FuncId} {args:List AV} {h h':List Res} {R:AV→List Res→Prop} (p:h.Perm h') (hc:y9 P f args h' R):y9 P f args h R:=by
 intro X w vs hh ha
 refine (hc X w vs (hh.perm p) (ha.keep (Nat.le_refl _) (fun b hb hl=>⟨rfl,by rw [←zcr p];exact hb⟩))).mono ?_
 rintro e w' ⟨u,av,h'',e1,hR,hrel,hh',hk⟩
 exact ⟨u,av,h'',e1,hR,hrel,hh',hk.perm_left p.symm⟩
abbrev LP:=LoopState→Option Code→Res
def zp7 (lp:LP) (pend:Option Code) (R:AV→List Res→Prop) (e:Exit) (s:St):Prop:=
 ∃h1,s.h.Perm (lp .busy pend::h1)∧match e with
  | .normal=>R (.v (.bool true)) (lp .ready none::h1)
  | .ret=>R (.v (.bool false)) (lp .done (some .ret)::h1)
  | .exit id=>R (.v (.bool false)) (lp .done (some (.exit id))::h1)
  |_=>False
theorem zlo {P:Program} {nt:Nat} {Q:Exit→St→Prop} {t:Fr} {h:List Res} {ds:List Nat} {g:Operand} {ps:Array Tmp} {asn body:Code} {f:FuncId} {fs cs:List AV} [Enters P f] (K:Option Code→List Res→Prop) (hg:ev t g=some (.fn (.func f) fs cs))
 (hcall:∀fn l r (lp:LP),(lp=fun st pend=> .loop l st pend fn nt t ps asn body r)→y9 P f (fs++ [yv l]++cs) (lp .ready none:: .defs r::h) (fun _ h'=>∃pend st h'',h'.Perm (lp st pend:: .defs r::h'')∧st≠ .busy∧K pend h''))
 (hn:∀r h'',K none h''→Q .normal ⟨t,.defs r::h'',r::ds⟩) (hj:∀r h'' c,K (some c) h''→aw P none nt c Q ⟨t,.defs r::h'',r::ds⟩):aw P none nt (.rangeFunc g ps asn body) Q ⟨t,h,ds⟩:=
 zp1 (K:=fun _ _ _ pend h''=>K pend h'') hg (fun fn l r=>hcall fn l r _ rfl) (fun _ _ r h'' hk=>hn r h'' hk) (fun _ _ r h'' c hk=>hj r h'' c hk)
theorem ztd {P:Program} {l:Nat} {pend:Option Code} {fn:FuncId} {nt:Nat} {t:Fr} {ps:List Tmp} {asn body:Code} {dd:Nat} {args:List AV} {h:List Res} {R:AV→List Res→Prop} {lp:LP} (hlp:lp=fun st pend=> .loop l st pend fn nt t ps.toArray asn body dd)
 (hps:Nat.beq ps.length args.length=true) (hpn:(ps.all fun p=>Nat.blt p nt)=true)
 (hb:aw P (some l) nt asn (thn (fun s=>∃t',Ent nt s ⟨t',lp .ready pend::h,[]⟩∧aw P (some l) nt body (zp7 lp pend R) ⟨t',lp .busy pend::h,[]⟩) (fun _ _=>False))
  ⟨zmq ps args t,lp .ready pend::h,[]⟩):y3 P (yv l) args (lp .ready pend::h) R:=by
 subst hlp
 exact zrl hps hpn hb
theorem zgw {lp:LP} {pend:Option Code} {t2:Fr} {R:AV→List Res→Prop} {h h1:List Res} {ds:List Nat} (p:h.Perm (lp .busy pend::h1)) (hR:R (.v (.bool true)) (lp .ready none::h1)):zp7 lp pend R .normal ⟨t2,h,ds⟩:=⟨h1,p,hR⟩
theorem zmy {lp:LP} {pend:Option Code} {t2:Fr} {R:AV→List Res→Prop} {h h1:List Res} {ds:List Nat} (p:h.Perm (lp .busy pend::h1)) (hR:R (.v (.bool false)) (lp .done (some .ret)::h1)):zp7 lp pend R .ret ⟨t2,h,ds⟩:=⟨h1,p,hR⟩
theorem zj8 {lp:LP} {pend:Option Code} {t2:Fr} {R:AV→List Res→Prop} {h h1:List Res} {ds:List Nat} {id:Nat} (p:h.Perm (lp .busy pend::h1)) (hR:R (.v (.bool false)) (lp .done (some (.exit id))::h1)):zp7 lp pend R (.exit id) ⟨t2,h,ds⟩:=⟨h1,p,hR⟩
theorem zgf {P:Program} {t:Fr} {h h1:List Res} {ds:List Nat} {rs:List ResultVar} {R:AV→List Res→Prop} {aS:List AV} {av':AV} {h':List Res} (p:h.Perm (ds.map .defs++h1)) (hr:RVs P t h1 rs aS) (hv:zgi h1 (zd9 aS) h' av') (hR:R av' h'):zyx P rs R .ret ⟨t,h,ds⟩:=
 ⟨.inl rfl,h1,p,aS,av',h',hr,hv,hR⟩
theorem yec {P:Program} {t:Fr} {h h1:List Res} {ds:List Nat} {rs:List ResultVar} {R:AV→List Res→Prop} {aS:List AV} {av':AV} {h':List Res} (p:h.Perm (ds.map .defs++h1)) (hr:RVs P t h1 rs aS) (hv:zgi h1 (zd9 aS) h' av') (hR:R av' h'):zyx P rs R .normal ⟨t,h,ds⟩:=
 ⟨.inr rfl,h1,p,aS,av',h',hr,hv,hR⟩
theorem zlc.permR {X:Nat→Prop} {w:World} {h:List Res} {R:AV→List Res→Prop} {e:Ending} {w':World} (p:zlc X w h (fun r h'=>∃h'',h'.Perm h''∧R r h'') e w'):zlc X w h R e w':=by
 obtain ⟨u,av,h',e1,⟨h'',q,hR⟩,hrel,hh',hk⟩:=p
 exact ⟨u,av,h'',e1,hR,hrel.keep (Nat.le_refl _) (fun b hb hl=>⟨rfl,by rw [←zcr q];exact hb⟩),hh'.perm q,hk.perm_right q⟩
theorem y3.permR {P:Program} {fv:AV} {args:List AV} {h:List Res} {R:AV→List Res→Prop} (hc:y3 P fv args h (fun r h'=>∃h'',h'.Perm h''∧R r h'')):y3 P fv args h R:=
 fun X w v vs hh hv ha=>(hc X w v vs hh hv ha).mono fun _ _ p=>p.permR
theorem y3.qt {P:Program} {fv:AV} {args:List AV} {G h h2:List Res} {r0:AV} (hc:y3 P fv args G (fun r h'=>h'=G∧r=r0)) (p:h.Perm (G++h2)):y3 P fv args h (fun r h'=>h'=h∧r=r0):=
 y3.quiet (R:=fun r=>r=r0) p hc
theorem y3.fr {P:Program} {fv:AV} {args:List AV} {G h h2:List Res} {R:AV→List Res→Prop} (hc:y3 P fv args G R) (p:h.Perm (G++h2)):y3 P fv args h (fun r h'=>∃h'',h'=h''++h2∧R r h''):=
 ((hc.frame h2).perm p).mono fun _ _ ⟨h1,e,q⟩=>⟨h1,e,q⟩
theorem ze2 {α:Type}:∀(l1:List α) (x:α) (l2:List α),(l1++x::l2).Perm (x::(l1++l2)):=fun l1 x l2=>List.perm_middle
theorem pt1 {α:Type} (a0 x:α) (l:List α):(a0::x::l).Perm (x::a0::l):=ze2 [a0] x l
theorem pt2 {α:Type} (a0 a1 x:α) (l:List α):(a0::a1::x::l).Perm (x::a0::a1::l):=ze2 [a0,a1] x l
theorem pt3 {α:Type} (a0 a1 a2 x:α) (l:List α):(a0::a1::a2::x::l).Perm (x::a0::a1::a2::l):=ze2 [a0,a1,a2] x l
theorem pt4 {α:Type} (a0 a1 a2 a3 x:α) (l:List α):(a0::a1::a2::a3::x::l).Perm (x::a0::a1::a2::a3::l):=ze2 [a0,a1,a2,a3] x l
theorem pt5 {α:Type} (a0 a1 a2 a3 a4 x:α) (l:List α):(a0::a1::a2::a3::a4::x::l).Perm (x::a0::a1::a2::a3::a4::l):=ze2 [a0,a1,a2,a3,a4] x l
theorem pt6 {α:Type} (a0 a1 a2 a3 a4 a5 x:α) (l:List α):(a0::a1::a2::a3::a4::a5::x::l).Perm (x::a0::a1::a2::a3::a4::a5::l):=ze2 [a0,a1,a2,a3,a4,a5] x l
theorem pt7 {α:Type} (a0 a1 a2 a3 a4 a5 a6 x:α) (l:List α):(a0::a1::a2::a3::a4::a5::a6::x::l).Perm (x::a0::a1::a2::a3::a4::a5::a6::l):=ze2 [a0,a1,a2,a3,a4,a5,a6] x l
theorem pt8 {α:Type} (a0 a1 a2 a3 a4 a5 a6 a7 x:α) (l:List α):(a0::a1::a2::a3::a4::a5::a6::a7::x::l).Perm (x::a0::a1::a2::a3::a4::a5::a6::a7::l):=ze2 [a0,a1,a2,a3,a4,a5,a6,a7] x l
theorem pt9 {α:Type} (a0 a1 a2 a3 a4 a5 a6 a7 a8 x:α) (l:List α):(a0::a1::a2::a3::a4::a5::a6::a7::a8::x::l).Perm (x::a0::a1::a2::a3::a4::a5::a6::a7::a8::l):=ze2 [a0,a1,a2,a3,a4,a5,a6,a7,a8] x l
theorem zc0 {α:Type} (l1 l2:List α):(l1++l2).Perm (l2++l1):=List.perm_append_comm
theorem yep {P:Program} {h:List Res} {f:Operand→Option AV} {dst:Option Tmp} {ty:TypeId} {pos:String} {after:Array Edge} {guard:Option (Nat×Bool)} {x y z:Operand} {tys:Array TypeId} {k k' k'':IntKind} {a b c:Int} (hx:f x=some (.v (.int k a))) (hy:f y=some (.v (.int k' b))) (hz:f z=some (.v (.int k'' c))):
 QR P h f ⟨dst,.call ⟨.builtin .max,[x,y,z].toArray,tys⟩,ty,pos,after,guard⟩ (.v (.int k (max (max a b) c))):=fun X ρ w he=>by
 refine ⟨_,?_,.v _⟩
 have e:∀(w:World) (ts:Array TypeId) (t:TypeId),(Builtin.max_ ts t #[.int k a,.int k' b,.int k'' c]).run P w= .ok (.int k (max (max a b) c)) w:=by
  intro w ts t
  have e0:(Builtin.max_ ts t #[.int k a,.int k' b,.int k'' c]).run P w= .ok (.int k (if c > (if b > a then b else a) then c else (if b > a then b else a))) w:=by simp [Builtin.max_,Builtin.max2]
  have e1:(if c > (if b > a then b else a) then c else (if b > a then b else a))=max (max a b) c:=by
   have e2:(if b > a then b else a)=max a b:=by simp only [Int.max_def];repeat' split
                                                all_goals omega
   rw [e2]
   simp only [Int.max_def];repeat' split
   all_goals omega
  rw [e0,e1]
 simp only [execOp,resolve,List.map_toArray,List.map_cons,List.map_nil,(he.rel x _ hx).v_eq,(he.rel y _ hy).v_eq,(he.rel z _ hz).v_eq,Sem.run_bind,Sem.run_pure,Result.andThen_ok,invoke,builtin,e]
theorem zgt {P:Program} {ro:Option Nat} {nt:Nat} {x y:Code} {Q:Exit→St→Prop} {s:St} (m:St) (h:aw P ro nt x (thn (fun s'=>Ent nt s' m) Q) s) (k:aw P ro nt y Q m):aw P ro nt (.seq x y) Q s:=
 w6 (zg3 (fun e s' q=>by
  cases e with
  |normal=>exact ziw q k
  |_=>exact q) h)
theorem zih {ι:Type} {P:Program} {ro:Option Nat} {nt:Nat} {x y:Code} {Q:Exit→St→Prop} {s:St} (p:ι→Prop) (m:ι→St) (h:aw P ro nt x (thn (fun s'=>∃i,p i∧Ent nt s' (m i)) Q) s) (k:∀i,p i→aw P ro nt y Q (m i)):aw P ro nt (.seq x y) Q s:=
 w6 (zg3 (fun e s' q=>by
  cases e with
  |normal=>obtain ⟨i,hi,he⟩:=q;exact ziw he (k i hi)
  |_=>exact q) h)
theorem y3.frL {P:Program} {fv:AV} {args:List AV} {G:List Res} {R:AV→List Res→Prop} (h2:List Res) (hc:y3 P fv args G R):y3 P fv args (h2++G) (fun r h'=>∃h'',h'=h2++h''∧R r h''):=by
 refine y3.permR ((y3.fr hc (h2:=h2) List.perm_append_comm).mono ?_)
 rintro r _ ⟨h'',rfl,q⟩
 exact ⟨h2++h'',List.perm_append_comm,h'',rfl,q⟩
theorem y3.fr1 {P:Program} {fv:AV} {args:List AV} {G:List Res} {R:AV→List Res→Prop} {a0:Res} (hc:y3 P fv args G R):y3 P fv args (a0::G) (fun r h'=>∃h'',h'=a0::h''∧R r h''):=hc.frL [a0]
theorem y3.fr2 {P:Program} {fv:AV} {args:List AV} {G:List Res} {R:AV→List Res→Prop} {a0 a1:Res} (hc:y3 P fv args G R):y3 P fv args (a0::a1::G) (fun r h'=>∃h'',h'=a0::a1::h''∧R r h''):=hc.frL [a0,a1]
theorem y3.fr3 {P:Program} {fv:AV} {args:List AV} {G:List Res} {R:AV→List Res→Prop} {a0 a1 a2:Res} (hc:y3 P fv args G R):y3 P fv args (a0::a1::a2::G) (fun r h'=>∃h'',h'=a0::a1::a2::h''∧R r h''):=hc.frL [a0,a1,a2]
def ycc {K:Type} (l:List K):List (K×AV):=l.map fun x=>(x,.v (.bool true))
theorem zo1 {K:Type} [DecidableEq K] (k:K):∀l:List K,zc2 k (ycc l)=if k∈l then some (.v (.bool true)) else none
 | []=>rfl
 |x::l=>by
  have ih:=zo1 k l
  simp only [ycc,List.map_cons,zc2,List.mem_cons] at ih ⊢
  by_cases h:x=k
  ·simp [h]
  ·rw [if_neg h,ih];simp [Ne.symm h]
def yaj {K:Type} [DecidableEq K] (k:K) (l:List K):Bool:=decide (k∈l)
theorem yiy {K:Type} [DecidableEq K] {k:K} {l:List K}:yaj k l=false ↔ k ∉ l:=by simp [yaj]
theorem zuj {K:Type} [DecidableEq K] (k:K) (l:List K):(zc2 k (ycc l)).getD (.v (.bool false))= .v (.bool (yaj k l)):=by
 rw [zo1];by_cases h:k∈l <;> simp [h,yaj]
theorem zr7 {K:Type} [DecidableEq K] (k:K):∀l:List K,k ∉ l→zlv k (.v (.bool true)) (ycc l)=ycc (l++ [k])
 | [],_=>rfl
 |x::l,h=>by
  have ih:=zr7 k l (fun q=>h (List.mem_cons_of_mem _ q))
  have hx:x≠k:=fun q=>h (q ▸ List.mem_cons_self)
  simp only [ycc,List.map_cons,zlv,List.cons_append,List.map_append] at ih ⊢
  rw [if_neg hx,ih]
structure SV where
 a:Option Addr
 n:Nat
 c:Nat
def SV.v (s:SV):Value:= .slice s.a s.n s.c
structure MX where
 vs:List SV
 ns:List Nat
abbrev MR:=MX→AV×List Res
abbrev CM:=List Res×MR
def ygu (P:Program) (ro:Option Nat) (nt:Nat) (h:List Res) (dsl:List Nat) (l:List Oper) (sd:List Tmp) (t0:Fr) (o:Oper) (m:CM) (e:Fr):Prop:=
 ∃d,o.dst=some d∧Nat.blt d nt=true∧o.guard=none∧
  ∀X a w K Q,a.tmps.size=nt→a.defers=dsl.map zhm→Env X (m.1++h) (evS sd (zac l o) e t0) a.eval w→(∀x v w',Rel w' (OO ((m.2 x).2++h) X) (m.2 x).1 v→HRel X w' ((m.2 x).2++h)→Keep (u2 (m.1++h)) w (u2 ((m.2 x).2++h)) w'→K (a.put o.dst v) w')→o.wpIn (FW ro) 0 P a w K Q
def zbh (P:Program) (ro:Option Nat) (nt:Nat) (h:List Res) (dsl:List Nat) (l:List Oper) (sd:List Tmp) (t0:Fr):List Oper→Fr→(Fr→List (Option CM)→Prop)→Prop
 | [],e,K=>K e []
 |o::rest,e,K=>(∃d av,o.dst=some d∧zr0 P ro nt h l sd t0 o av e∧zbh P ro nt h dsl l sd t0 rest ((d,av)::e) (fun e ms=>K e (none::ms)))∨
   (∃m,ygu P ro nt h dsl l sd t0 o m e∧zbh P ro nt h dsl l sd t0 rest e (fun e ms=>K e (some m::ms)))
def zam:List Oper→List (Option CM)→Fr→List Res→(Fr→List Res→Prop)→Prop
 |o::os,some m::ms,e,h,K=>∀d x,o.dst=some d→zam os ms ((d,(m.2 x).1)::e) ((m.2 x).2++h) K
 |_::os,none::ms,e,h,K=>zam os ms e h K
 |_,_,e,h,K=>K e h
def zg2:List Oper→List (Option AV)→Fr→Fr
 |o::os,some a::aS,e=>zg2 os aS (match o.dst with
  |some d=>(d,a)::e
  |none=>e)
 |_::os,none::aS,e=>zg2 os aS e
 |_,_,e=>e
def zb5 (P:Program) (ro:Option Nat) (nt:Nat) (h:List Res) (dsl:List Nat) (l:List Oper) (sd:List Tmp) (t0:Fr):List Oper→List (Option AV)→List (Option CM)→Fr→Prop
 | [],[],[],_=>True
 |o::os,some a::aS,none::ms,e=>∃d,o.dst=some d∧zr0 P ro nt h l sd t0 o a e∧zb5 P ro nt h dsl l sd t0 os aS ms ((d,a)::e)
 |o::os,none::aS,some m::ms,e=>ygu P ro nt h dsl l sd t0 o m e∧zb5 P ro nt h dsl l sd t0 os aS ms e
 |_,_,_,_=>False
theorem zkz {P:Program} {ro:Option Nat} {nt:Nat} {h:List Res} {dsl:List Nat} {l:List Oper} {sd:List Tmp} {t0:Fr}:∀{os:List Oper} {e:Fr} {K:Fr→List (Option CM)→Prop},zbh P ro nt h dsl l sd t0 os e K→
 ∃aS ms,zb5 P ro nt h dsl l sd t0 os aS ms e∧K (zg2 os aS e) ms
 | [],e,K,hk=>⟨[],[],trivial,hk⟩
 |o::os,e,K,.inl ⟨d,av,h1,h2,h3⟩=>let ⟨aS,ms,a,b⟩:=zkz h3;⟨some av::aS,none::ms,⟨d,h1,h2,a⟩,by simpa [zg2,h1] using b⟩
 |o::os,e,K,.inr ⟨m,h1,h2⟩=>let ⟨aS,ms,a,b⟩:=zkz h2;⟨none::aS,some m::ms,⟨h1,a⟩,by simpa [zg2] using b⟩
theorem zb5.length {P:Program} {ro:Option Nat} {nt:Nat} {h:List Res} {dsl:List Nat} {l:List Oper} {sd:List Tmp} {t0:Fr}:∀{os:List Oper} {aS:List (Option AV)} {ms:List (Option CM)} {e:Fr},zb5 P ro nt h dsl l sd t0 os aS ms e→aS.length=os.length∧ms.length=os.length
 | [],[],[],_,_=>⟨rfl,rfl⟩
 |o::os,some a::aS,none::ms,e,⟨d,_,_,hh⟩=>by have:=zb5.length hh;simp [this.1,this.2]
 |o::os,none::aS,some m::ms,e,⟨_,hh⟩=>by have:=zb5.length hh;simp [this.1,this.2]
 | [],_::_,_,_,hh=>by simp [zb5] at hh
 | [],[],_::_,_,hh=>by simp [zb5] at hh
 |_::_,[],_,_,hh=>by simp [zb5] at hh
 |_::_,some _::_,[],_,hh=>by simp [zb5] at hh
 |_::_,none::_,[],_,hh=>by simp [zb5] at hh
 |_::_,some _::_,some _::_,_,hh=>by simp [zb5] at hh
 |_::_,none::_,none::_,_,hh=>by simp [zb5] at hh
theorem zb5.at {P:Program} {ro:Option Nat} {nt:Nat} {h:List Res} {dsl:List Nat} {l:List Oper} {sd:List Tmp} {t0:Fr}:∀{os:List Oper} {aS:List (Option AV)} {ms:List (Option CM)} {e:Fr},zb5 P ro nt h dsl l sd t0 os aS ms e→∀(i:Nat) (o:Oper),os[i]? =some o→
 (∃a,aS[i]? =some (some a)∧ms[i]? =some none∧zr0 P ro nt h l sd t0 o a (zg2 (os.take i) (aS.take i) e))∨(∃m,aS[i]? =some none∧ms[i]? =some (some m)∧ygu P ro nt h dsl l sd t0 o m (zg2 (os.take i) (aS.take i) e))
 |o::os,some a::aS,none::ms,e,⟨d,h1,h2,h3⟩,0,o',ho=>by
  simp only [List.getElem?_cons_zero,Option.some.injEq] at ho
  subst ho
  exact .inl ⟨a,rfl,rfl,h2⟩
 |o::os,none::aS,some m::ms,e,⟨h1,h2⟩,0,o',ho=>by
  simp only [List.getElem?_cons_zero,Option.some.injEq] at ho
  subst ho
  exact .inr ⟨m,rfl,rfl,h1⟩
 |o::os,some a::aS,none::ms,e,⟨d,h1,h2,h3⟩,i+1,o',ho=>by
  have:=zb5.at h3 i o' (by simpa using ho)
  simpa [zg2,h1] using this
 |o::os,none::aS,some m::ms,e,⟨h1,h2⟩,i+1,o',ho=>by
  have:=zb5.at h2 i o' (by simpa using ho)
  simpa [zg2] using this
 | [],_,_,_,_,_,_,ho=>by simp at ho
 |_::_,[],_,_,hh,_,_,_=>by simp [zb5] at hh
 |_::_,some _::_,[],_,hh,_,_,_=>by simp [zb5] at hh
 |_::_,none::_,[],_,hh,_,_,_=>by simp [zb5] at hh
 |_::_,some _::_,some _::_,_,hh,_,_,_=>by simp [zb5] at hh
 |_::_,none::_,none::_,_,hh,_,_,_=>by simp [zb5] at hh
theorem zji:∀{os:List Oper} {aS:List (Option AV)} {e:Fr} {d:Nat} {av:AV},lk (zg2 os aS e) d=some av→(∃(i:Nat) (o:Oper),os[i]? =some o∧aS[i]? =some (some av)∧o.dst=some d)∨lk e d=some av
 | [],aS,e,d,av,hh=>by cases aS <;> exact .inr hh
 |o::os,[],e,d,av,hh=> .inr hh
 |o::os,none::aS,e,d,av,hh=>by
  rcases zji (os:=os) (aS:=aS) hh with ⟨i,o',h1,h2,h3⟩|h1
  ·exact .inl ⟨i+1,o',by simpa using h1,by simpa using h2,h3⟩
  ·exact .inr h1
 |o::os,some a::aS,e,d,av,hh=>by
  rcases zji (os:=os) (aS:=aS) hh with ⟨i,o',h1,h2,h3⟩|h1
  ·exact .inl ⟨i+1,o',by simpa using h1,by simpa using h2,h3⟩
  ·split at h1
   ·rename_i d' hd'
    simp only [lk] at h1
    split at h1
    ·rename_i hb
     have:=Nat.eq_of_beq_eq_true hb
     subst this
     cases h1
     exact .inl ⟨0,o,rfl,rfl,hd'⟩
    ·exact .inr h1
   ·exact .inr h1
theorem znc:∀{os:List Oper} {aS:List (Option AV)} {e:Fr} {i:Nat} {o:Oper} {a:AV} {d:Nat},os[i]? =some o→aS[i]? =some (some a)→o.dst=some d→lk (zg2 os aS e) d≠none:=by
 have mono:∀(os:List Oper) (aS:List (Option AV)) (e:Fr) (d:Nat),lk e d≠none→lk (zg2 os aS e) d≠none:=by
  intro os
  induction os with
  |nil=>intro aS e d h;cases aS <;> exact h
  |cons o os ih=>
   intro aS e d h
   cases aS with
   |nil=>exact h
   |cons a aS=>
    cases a with
    |none=>exact ih aS _ d h
    |some a=>
     refine ih aS _ d ?_
     split
     ·simp only [lk];split
      ·simp
      ·exact h
     ·exact h
 intro os
 induction os with
 |nil=>intro aS e i o a d ho;simp at ho
 |cons o' os ih=>
  intro aS e i o a d ho ha hd
  cases aS with
  |nil=>simp at ha
  |cons x aS=>
   cases i with
   |zero=>
    simp only [List.getElem?_cons_zero,Option.some.injEq] at ho ha
    subst ho ha
    refine mono os aS _ d ?_
    simp [hd,lk]
   |succ i=>
    have:=ih (aS:=aS) (e:=match x with
     |some a=>(match o'.dst with
      |some d=>(d,a)::e
      |none=>e)
     |none=>e) (by simpa using ho) (by simpa using ha) hd
    cases x <;> exact this
theorem HRel.addres {X:Nat→Prop} {w:World} {h rs:List Res} (hh:HRel (Sub X (u2 rs)) w h) (hn:(u2 rs).Nodup) (hX:∀b∈u2 rs,¬X b) (hr:∀r∈rs,r.holds w (OO h (Sub X (u2 rs)))):HRel X w (rs++h):=by
 have hOO:OO (rs++h) X=OO h (Sub X (u2 rs)):=by
  funext b;simp only [OO,Sub,x8,List.mem_append,eq_iff_iff]
  exact ⟨fun q=>by rcases q with (q|q)|q <;> simp [q],fun q=>by rcases q with q|q|q <;> simp [q]⟩
 refine ⟨?_,fun b hb=> ?_,fun b hb=>hh.xlt b (.inl hb),fun r hr'=> ?_⟩
 ·rw [x8,List.nodup_append]
  exact ⟨hn,hh.nodup,fun x hx y hy e=>(hh.lt y hy).2 (.inr (e ▸ hx))⟩
 ·rw [x8,List.mem_append] at hb
  rcases hb with hb|hb
  ·exact ⟨hh.xlt b (.inr hb),hX b hb⟩
  ·exact ⟨(hh.lt b hb).1,fun q=>(hh.lt b hb).2 (.inl q)⟩
 ·rw [hOO]
  rcases List.mem_append.1 hr' with q|q
  ·exact hr r q
  ·exact hh.holds r q
abbrev XB (X:Nat→Prop) (B:Nat→List Nat):Nat→Prop:=fun b=>X b∨∃i:Nat,b∈B i
structure zob (P:Program) (X:Nat→Prop) (nt:Nat) (h:List Res) (CO:List Nat) (l:List Oper) (n:Nat) (t:Fr) (dsl:List Nat) (aS:List (Option AV)) (ms:List (Option CM)) (w0:World) (B:Nat→List Nat) (listed:Array Bool) (a:Act) (w:World):Prop where
 size:listed.size=l.length
 closed:∀i,listed.getD i false=true→∀j∈q9 l i,listed.getD j false=true
 tail:∀i,n≤i→listed.getD i false=false
 tsz:a.tmps.size=nt
 defs:a.defers=dsl.map zhm
 heap:HRel (XB X B) w h
 inj:∀(i j:Nat) b,b∈B i→b∈B j→i=j
 blk:∀(i:Nat) b,b∈B i→i < n∧¬X b∧(w0.heap.size≤b∨b∈CO)
 pend:∀i m,i < n→ms[i]? =some (some m)→listed.getD i false=false→u2 m.1=B i∧(B i).Nodup∧∀r∈m.1,r.holds w (OO h (XB X B))
 mks:∀i o d m,i < n→l[i]? =some o→o.dst=some d→ms[i]? =some (some m)→listed.getD i false=true→∃x v,a.tmps[d]? =some v∧u2 (m.2 x).2=B i∧(B i).Nodup∧Rel w (OO h (XB X B)) (m.2 x).1 v∧∀r∈(m.2 x).2,r.holds w (OO h (XB X B))
 nomk:∀i,ms[i]? =some none→B i= []
 vals:∀i o d av,i < n→l[i]? =some o→o.dst=some d→aS[i]? =some (some av)→listed.getD i false=true→∃v,a.tmps[d]? =some v∧Rel w (OO h (XB X B)) av v
 base:∀d av,(∀j,j < n→u7 l j≠some d)→lk t d=some av→∃v,a.tmps[d]? =some v∧Rel w (OO h (XB X B)) av v
 keep:Keep (u2 h++CO) w0 (u2 h++CO) w
section
variable {P:Program} {X:Nat→Prop} {nt n:Nat} {h:List Res} {CO:List Nat} {l:List Oper} {t:Fr} {dsl:List Nat} {aS:List (Option AV)} {ms:List (Option CM)} {w0:World} {B:Nat→List Nat} {listed:Array Bool} {a:Act} {w:World}
theorem zob.look (hc:SoupC l n) (hi:zob P X nt h CO l n t dsl aS ms w0 B listed a w) {i:Nat} {o:Oper} (ho:l[i]? =some o) (hin:i < n) (hp:∀j∈q9 l i,listed.getD j false=true) {d:Nat} {av:AV}
 (hl:lkS (zcf l n) (zac l o) (zg2 ((l.take n).take i) (aS.take i) []) t d=some av):∃v,a.tmps[d]? =some v∧Rel w (OO h (XB X B)) av v:=by
 unfold lkS at hl
 split at hl
 ·rename_i hpd
  obtain ⟨x,hx,e⟩:=List.any_eq_true.1 hpd
  have:=Nat.eq_of_beq_eq_true e
  subst this
  simp only [zac,List.mem_filterMap] at hx
  obtain ⟨j',hj',hd'⟩:=hx
  have hj'p:j'∈q9 l i:=by simp only [q9,ho];exact hj'
  rcases zji hl with ⟨j,oj,h1,h2,h4⟩|h1
  ·have hji:j < i:=by
    have:=(List.getElem?_eq_some_iff.1 h2).1
    simp at this;omega
   have hoj:l[j]? =some oj:=by
    rw [List.take_take,Nat.min_eq_left (by omega)] at h1
    rw [List.getElem?_take_of_lt hji] at h1;exact h1
   have hjj:j=j':=by
    obtain ⟨_,g3,_⟩:=hc.one (show j < n by omega) hoj h4
    rcases Nat.decEq j j' with hne|heq
    ·exact absurd rfl (g3 j' (by have:=hc.back i (by have:=hc.le;omega) j' hj'p;omega) (fun h=>hne h.symm) d hd')
    ·exact heq
   subst hjj
   exact hi.vals j oj d av (by omega) hoj h4 (by rw [List.getElem?_take_of_lt hji] at h2;exact h2) (hp j hj'p)
  ·simp [lk] at h1
 ·split at hl
  ·cases hl
  ·rename_i hsd
   refine hi.base d av (fun j hj hd=> ?_) hl
   have:d∈zcf l n:=by
    simp only [zcf,List.mem_filterMap]
    simp only [u7] at hd
    cases hlj:l[j]? with
    |none=>simp [hlj] at hd
    |some oj=>
     simp only [hlj,Option.bind_some] at hd
     exact ⟨oj,List.mem_of_getElem? (i:=j) (by rw [List.getElem?_take_of_lt hj];exact hlj),hd⟩
   have:(zcf l n).any (Nat.beq d)=true:=List.any_eq_true.2 ⟨d,this,by simp⟩
   simp_all
theorem zob.env (hc:SoupC l n) (hi:zob P X nt h CO l n t dsl aS ms w0 B listed a w) {i:Nat} {o:Oper} (ho:l[i]? =some o) (hin:i < n) (hp:∀j∈q9 l i,listed.getD j false=true):
 Env (XB X B) h (evS (zcf l n) (zac l o) (zg2 ((l.take n).take i) (aS.take i) []) t) a.eval w:=by
 refine ⟨hi.heap,fun x av hx=> ?_⟩
 cases x with
 |tmp d=>
  obtain ⟨v,e,r⟩:=hi.look hc ho hin hp hx
  have:a.eval (.tmp d)=v:=by simp [Act.eval,Array.getD_eq_getD_getElem?,e]
  rw [this];exact r
 |const x=>cases hx;exact .v x
 |global g=>cases hx;exact .v _
 |func f=>cases hx;exact .fn _ _ _ _ _ rfl rfl (fun j h=>absurd h (Nat.not_lt_zero j)) (fun j h=>absurd h (Nat.not_lt_zero j))
theorem zob.guard (hc:SoupC l n) (hi:zob P X nt h CO l n t dsl aS ms w0 B listed a w) {i:Nat} {o:Oper} (ho:l[i]? =some o) (hin:i < n) (hp:∀j∈q9 l i,listed.getD j false=true) {b:Bool}
 (hg:gdS l (lkS (zcf l n) (zac l o) (zg2 ((l.take n).take i) (aS.take i) []) t) o=some b):Region.wanted o (yielded l.toArray a.tmps)=b:=by
 unfold gdS at hg
 unfold Region.wanted
 split at hg
 ·rename_i h0;rw [h0];simpa using hg
 ·rename_i j want h0
  rw [h0]
  simp only
  split at hg
  ·rename_i d hd
   have hd':((l.toArray)[j]?).bind (·.dst)=some d:=by simpa [u7] using hd
   split at hg
   ·rename_i c hcc
    obtain ⟨v,e,r⟩:=hi.look hc ho hin hp hcc
    rw [r.v_eq] at e
    simp only [Option.some.injEq] at hg
    subst hg
    simp only [yielded,hd',Option.bind_some,e]
    cases c <;> cases want <;> rfl
   ·rename_i c hcc
    obtain ⟨v,e,r⟩:=hi.look hc ho hin hp hcc
    rw [r.v_eq] at e
    simp only [Option.some.injEq] at hg
    subst hg
    simp only [yielded,hd',Option.bind_some,e]
    cases want <;> rfl
   ·cases hg
  ·cases hg
theorem zx0 (hc:SoupC l n) (hi:zob P X nt h CO l n t dsl aS ms w0 B listed a w) {i:Nat} (hp:∀j∈q9 l i,listed.getD j false=true):
 ∀k,(listed.setIfInBounds i true).getD k false=true→∀j∈q9 l k,(listed.setIfInBounds i true).getD j false=true:=fun k hk j hj=>by
 by_cases hik:i=k
 ·subst hik;exact getD_set_true (hp j hj)
 ·rw [getD_set_ne false hik] at hk;exact getD_set_true (hi.closed k hk j hj)
theorem zob.stepQ (hc:SoupC l n) (hi:zob P X nt h CO l n t dsl aS ms w0 B listed a w) {i:Nat} {o:Oper} {d:Nat} {av:AV} {v:Value} {w':World} (ho:l[i]? =some o) (hin:i < n) (hp:∀j∈q9 l i,listed.getD j false=true)
 (hd:o.dst=some d) (hdn:d < nt) (hav:aS[i]? =some (some av)) (hms:ms[i]? =some none) (hr:Rel w' (OO h (XB X B)) av v) (hh:HRel (XB X B) w' h) (hk:Keep (u2 h) w (u2 h) w'):
 zob P X nt h CO l n t dsl aS ms w0 B (listed.setIfInBounds i true) (a.put (some d) v) w':=by
 have hne:∀j oj dj,j < n→j≠i→l[j]? =some oj→oj.dst=some dj→d≠dj:=fun j oj dj hj hji hoj hdj=>by
  obtain ⟨_,g3,_⟩:=hc.one hin ho hd
  exact g3 j hj hji dj (by simp [u7,hoj,hdj])
 have hput:∀d',d≠d'→(a.put (some d) v).tmps[d']? =a.tmps[d']? :=fun d' hdd=>by simp [Act.put,hdd]
 have hkk:=fun b (hb:¬OO h (XB X B) b) hl=>hk.oo (X:=XB X B) b hb hl
 have hkB:∀k b,b∈B k→w'.heap[b]? =w.heap[b]? :=fun k b hb=>(hk.same b (hi.heap.xlt b (.inr ⟨k,hb⟩)) (fun hm=>(hi.heap.lt b hm).2 (.inr ⟨k,hb⟩))).1
 refine ⟨by simp [hi.size],zx0 hc hi hp,fun k hk=> ?_,by simp [Act.put,hi.tsz],hi.defs,hh,hi.inj,hi.blk,fun k m hkn hmk hlk=> ?_,fun k ok dk m hkn hok hdk hmk hlk=> ?_,hi.nomk,fun k ok dk avk hkn hok hdk havk hlk=> ?_,fun d' av' hd' hlk=> ?_,hi.keep.trans hk.more⟩
 ·rw [getD_set_ne false (by omega)];exact hi.tail k hk
 ·have hki:i≠k:=fun e=>by subst e;rw [hms] at hmk;cases hmk
  rw [getD_set_ne false hki] at hlk
  obtain ⟨g1,g2,g3⟩:=hi.pend k m hkn hmk hlk
  exact ⟨g1,g2,fun r hr=>Res.holds_keep hk.size hkk (fun b hb=>hkB k b (g1 ▸ j5.2 ⟨r,hr,hb⟩)) (g3 r hr)⟩
 ·have hki:k≠i:=fun e=>by subst e;rw [hms] at hmk;cases hmk
  rw [getD_set_ne false (fun e=>hki e.symm)] at hlk
  obtain ⟨x,v',g1,g2,g3,g5,g4⟩:=hi.mks k ok dk m hkn hok hdk hmk hlk
  exact ⟨x,v',by rw [hput dk (hne k ok dk hkn hki hok hdk)];exact g1,g2,g3,g5.keep hk.size hkk,fun r hr=>Res.holds_keep hk.size hkk (fun b hb=>hkB k b (g2 ▸ j5.2 ⟨r,hr,hb⟩)) (g4 r hr)⟩
 ·by_cases hki:i=k
  ·subst hki
   have:ok=o:=Option.some.inj (hok.symm.trans ho)
   subst this
   have:dk=d:=Option.some.inj (hdk.symm.trans hd)
   subst this
   have:avk=av:=Option.some.inj (Option.some.inj (havk.symm.trans hav))
   subst this
   exact ⟨v,by simp [Act.put,hi.tsz,hdn],hr⟩
  ·rw [getD_set_ne false hki] at hlk
   obtain ⟨u,e,r⟩:=hi.vals k ok dk avk hkn hok hdk havk hlk
   exact ⟨u,by rw [hput dk (hne k ok dk hkn (fun h=>hki h.symm) hok hdk)];exact e,r.keep hk.size hkk⟩
 ·have hdd:d≠d':=fun e=>hd' i hin (by simp [u7,ho,hd,e])
  obtain ⟨u,e,r⟩:=hi.base d' av' hd' hlk
  exact ⟨u,by rw [hput d' hdd];exact e,r.keep hk.size hkk⟩
abbrev XBo (X:Nat→Prop) (B:Nat→List Nat) (i:Nat):Nat→Prop:=fun b=>X b∨∃k:Nat,k≠i∧b∈B k
theorem zob.open (hi:zob P X nt h CO l n t dsl aS ms w0 B listed a w) {i:Nat} {m:CM} (hin:i < n) (hms:ms[i]? =some (some m)) (hun:listed.getD i false=false):
 HRel (XBo X B i) w (m.1++h)∧OO (m.1++h) (XBo X B i)=OO h (XB X B):=by
 obtain ⟨g1,g2,g3⟩:=hi.pend i m hin hms hun
 have hX:XB X B=Sub (XBo X B i) (u2 m.1):=by
  funext b;simp only [XB,XBo,Sub,g1,eq_iff_iff]
  constructor
  ·rintro (q|⟨k,q⟩)
   ·exact .inl (.inl q)
   ·by_cases hk:k=i
    ·subst hk;exact .inr q
    ·exact .inl (.inr ⟨k,hk,q⟩)
  ·rintro ((q|⟨k,_,q⟩)|q)
   ·exact .inl q
   ·exact .inr ⟨k,q⟩
   ·exact .inr ⟨i,q⟩
 have hO:OO (m.1++h) (XBo X B i)=OO h (XB X B):=by
  rw [hX];funext b;simp only [OO,Sub,x8,List.mem_append,eq_iff_iff]
  exact ⟨fun q=>by rcases q with (q|q)|q <;> simp [q],fun q=>by rcases q with q|q|q <;> simp [q]⟩
 refine ⟨HRel.addres (by rw [←hX];exact hi.heap) (by rw [g1];exact g2) (fun b hb q=> ?_) (fun r hr=>by rw [←hX];exact g3 r hr),hO⟩
 rw [g1] at hb
 rcases q with q|⟨k,hk,q⟩
 ·exact (hi.blk i b hb).2.1 q
 ·exact hk (hi.inj k i b q hb)
theorem zob.stepM (hc:SoupC l n) (hi:zob P X nt h CO l n t dsl aS ms w0 B listed a w) {i:Nat} {o:Oper} {d:Nat} {m:CM} {x:MX} {v:Value} {w':World} (ho:l[i]? =some o) (hin:i < n) (hp:∀j∈q9 l i,listed.getD j false=true)
 (hd:o.dst=some d) (hdn:d < nt) (has:aS[i]? =some none) (hms:ms[i]? =some (some m)) (hun:listed.getD i false=false) (hr:Rel w' (OO ((m.2 x).2++h) (XBo X B i)) (m.2 x).1 v) (hh:HRel (XBo X B i) w' ((m.2 x).2++h)) (hk:Keep (u2 (m.1++h)) w (u2 ((m.2 x).2++h)) w'):
 zob P X nt h CO l n t dsl aS ms w0 (fun k=>if k=i then u2 (m.2 x).2 else B k) (listed.setIfInBounds i true) (a.put (some d) v) w':=by
 obtain ⟨p1,p2,p3⟩:=hi.pend i m hin hms hun
 obtain ⟨C,hC⟩:∃C:Nat→List Nat,C=fun k=>if k=i then u2 (m.2 x).2 else B k:=⟨_,rfl⟩
 rw [←hC]
 have hCi:C i=u2 (m.2 x).2:=by simp [hC]
 have hCk:∀k,k≠i→C k=B k:=fun k hki=>by simp [hC,hki]
 have hXC:∀b,XB X C b ↔ (XBo X B i b∨b∈u2 (m.2 x).2):=fun b=>by
  constructor
  ·rintro (hx|⟨k,hk⟩)
   ·exact .inl (.inl hx)
   ·by_cases hki:k=i
    ·subst hki;rw [hCi] at hk;exact .inr hk
    ·rw [hCk k hki] at hk;exact .inl (.inr ⟨k,hki,hk⟩)
  ·rintro ((hx|⟨k,hki,hk⟩)|hb)
   ·exact .inl hx
   ·exact .inr ⟨k,by rw [hCk k hki];exact hk⟩
   ·exact .inr ⟨i,by rw [hCi];exact hb⟩
 have hXC':XB X C=Sub (XBo X B i) (u2 (m.2 x).2):=by funext b;exact propext (hXC b)
 have hOO:OO ((m.2 x).2++h) (XBo X B i)=OO h (XB X C):=by
  funext b;simp only [OO,x8,List.mem_append,eq_iff_iff,hXC]
  exact ⟨fun q=>by rcases q with (q|q)|q <;> simp [q],fun q=>by rcases q with q|q|q <;> simp [q]⟩
 have hnd:=hh.nodup
 rw [x8,List.nodup_append] at hnd
 have hheap:HRel (XB X C) w' h:=by
  rw [hXC']
  exact (hh.perm List.perm_append_comm).part
 have hfresh:∀b∈u2 (m.2 x).2,w.heap.size≤b∨b∈B i:=fun b hb=>by
  refine Classical.byContradiction fun hlt=> ?_
  rw [not_or] at hlt
  have hlt1:b < w.heap.size:=by omega
  have hbh:b ∉ u2 h:=fun hm=>hnd.2.2 b hb b hm rfl
  exact (hk.same b hlt1 (by rw [x8,List.mem_append,p1];exact fun q=>q.elim hlt.2 hbh)).2 (by rw [x8];exact List.mem_append_left _ hb)
 have hBh:∀k b,b∈B k→b ∉ u2 h:=fun k b hb hm=>(hi.heap.lt b hm).2 (.inr ⟨k,hb⟩)
 have hsame:∀b,b < w.heap.size→b ∉ u2 h→b ∉ B i→w'.heap[b]? =w.heap[b]? :=fun b h1 h2 h3=>(hk.same b h1 (by rw [x8,List.mem_append,p1];exact fun q=>q.elim h3 h2)).1
 have hkk:∀b,¬OO h (XB X B) b→b < w.heap.size→w'.heap[b]? =w.heap[b]? ∧¬OO h (XB X C) b:=fun b hb hl=>
  ⟨hsame b hl (fun q=>hb (.inl q)) (fun q=>hb (.inr (.inr ⟨i,q⟩))),fun hm=>by
   rcases hm with hm|hm
   ·exact hb (.inl hm)
   ·rcases (hXC b).1 hm with (hm|⟨k,_,hm⟩)|hm
    ·exact hb (.inr (.inl hm))
    ·exact hb (.inr (.inr ⟨k,hm⟩))
    ·rcases hfresh b hm with q|q
     ·omega
     ·exact hb (.inr (.inr ⟨i,q⟩))⟩
 have hlB:∀k b,b∈B k→b < w.heap.size:=fun k b hb=>hi.heap.xlt b (.inr ⟨k,hb⟩)
 have hkB:∀k b,k≠i→b∈B k→w'.heap[b]? =w.heap[b]? :=fun k b hki hb=>hsame b (hlB k b hb) (hBh k b hb) (fun q=>hki (hi.inj k i b hb q))
 have hne:∀j oj dj,j < n→j≠i→l[j]? =some oj→oj.dst=some dj→d≠dj:=fun j oj dj hj hji hoj hdj=>by
  obtain ⟨_,g3,_⟩:=hc.one hin ho hd
  exact g3 j hj hji dj (by simp [u7,hoj,hdj])
 have hput:∀d',d≠d'→(a.put (some d) v).tmps[d']? =a.tmps[d']? :=fun d' hdd=>by simp [Act.put,hdd]
 have hgs:(listed.setIfInBounds i true).getD i false=true:=zar (by rw [hi.size];exact (List.getElem?_eq_some_iff.1 ho).1)
 have hkeep:Keep (u2 h++CO) w0 (u2 h++CO) w':=⟨Nat.le_trans hi.keep.size hk.size,fun b hb ho=>⟨(hsame b (Nat.lt_of_lt_of_le hb hi.keep.size) (fun q=>ho (List.mem_append_left _ q)) (fun q=>by
  rcases (hi.blk i b q).2.2 with g|g
  ·omega
  ·exact ho (List.mem_append_right _ g))).trans (hi.keep.same b hb ho).1,ho⟩,hi.keep.env.trans hk.env⟩
 refine ⟨by simp [hi.size],zx0 hc hi hp,fun k hk=> ?_,by simp [Act.put,hi.tsz],hi.defs,hheap,fun j k b hj hk=> ?_,fun k b hb=> ?_,fun k mk hkn hmk hlk=> ?_,fun k ok dk mk hkn hok hdk hmk hlk=> ?_,fun k hk=> ?_,fun k ok dk avk hkn hok hdk havk hlk=> ?_,fun d' av' hd' hlk=> ?_,hkeep⟩
 ·rw [getD_set_ne false (by omega)];exact hi.tail k hk
 ·by_cases hji:j=i <;> by_cases hki:k=i
  ·omega
  ·subst hji;rw [hCi] at hj;rw [hCk k hki] at hk
   rcases hfresh b hj with q|q
   ·have:=hlB k b hk;omega
   ·exact hi.inj j k b q hk
  ·subst hki;rw [hCi] at hk;rw [hCk j hji] at hj
   rcases hfresh b hk with q|q
   ·have:=hlB j b hj;omega
   ·exact hi.inj j k b hj q
  ·rw [hCk j hji] at hj;rw [hCk k hki] at hk;exact hi.inj j k b hj hk
 ·by_cases hki:k=i
  ·subst hki
   rw [hCi] at hb
   refine ⟨hin,fun hx=>(hh.lt b (by rw [x8];exact List.mem_append_left _ hb)).2 (.inl hx),?_⟩
   rcases hfresh b hb with q|q
   ·have:=hi.keep.size;exact .inl (by omega)
   ·exact (hi.blk k b q).2.2
  ·rw [hCk k hki] at hb
   exact hi.blk k b hb
 ·by_cases hki:k=i
  ·subst hki;rw [hgs] at hlk;cases hlk
  ·rw [getD_set_ne false (fun e=>hki e.symm)] at hlk
   obtain ⟨g1,g2,g3⟩:=hi.pend k mk hkn hmk hlk
   exact ⟨by rw [hCk k hki];exact g1,by rw [hCk k hki];exact g2,fun r hr'=>Res.holds_keep hk.size hkk (fun b hb=>hkB k b hki (g1 ▸ j5.2 ⟨r,hr',hb⟩)) (g3 r hr')⟩
 ·by_cases hki:k=i
  ·subst hki
   have:ok=o:=Option.some.inj (hok.symm.trans ho)
   subst this
   have:dk=d:=Option.some.inj (hdk.symm.trans hd)
   subst this
   have:mk=m:=Option.some.inj (Option.some.inj (hmk.symm.trans hms))
   subst this
   exact ⟨x,v,by simp [Act.put,hi.tsz,hdn],hCi.symm,by rw [hCi];exact hnd.1,by rw [←hOO];exact hr,fun r hr'=>by rw [←hOO];exact hh.holds r (List.mem_append_left _ hr')⟩
  ·rw [getD_set_ne false (fun e=>hki e.symm)] at hlk
   obtain ⟨x',v',g1,g2,g3,g5,g4⟩:=hi.mks k ok dk mk hkn hok hdk hmk hlk
   exact ⟨x',v',by rw [hput dk (hne k ok dk hkn hki hok hdk)];exact g1,by rw [hCk k hki];exact g2,by rw [hCk k hki];exact g3,g5.keep hk.size hkk,fun r hr'=>Res.holds_keep hk.size hkk (fun b hb=>hkB k b hki (g2 ▸ j5.2 ⟨r,hr',hb⟩)) (g4 r hr')⟩
 ·have hki:k≠i:=fun e=>by subst e;rw [hms] at hk;cases hk
  rw [hCk k hki];exact hi.nomk k hk
 ·have hki:i≠k:=fun e=>by subst e;rw [has] at havk;cases havk
  rw [getD_set_ne false hki] at hlk
  obtain ⟨u,e,r⟩:=hi.vals k ok dk avk hkn hok hdk havk hlk
  exact ⟨u,by rw [hput dk (hne k ok dk hkn (fun h=>hki h.symm) hok hdk)];exact e,r.keep hk.size hkk⟩
 ·have hdd:d≠d':=fun e=>hd' i hin (by simp [u7,ho,hd,e])
  obtain ⟨u,e,r⟩:=hi.base d' av' hd' hlk
  exact ⟨u,by rw [hput d' hdd];exact e,r.keep hk.size hkk⟩
end
theorem zla {X:Nat→Prop} {K:Fr→List Res→Prop} {tmps:Array Value} {w:World} {B:Nat→List Nat} {Oq:Nat→Prop}:∀(os:List Oper) (ms:List (Option CM)) (k:Nat) (e:Fr) (hc:List Res),
 HRel (fun b=>X b∨∃i:Nat,k≤i∧b∈B i) w hc→OO hc (fun b=>X b∨∃i:Nat,k≤i∧b∈B i)=Oq→
 (∀(i j:Nat) b,b∈B i→b∈B j→i=j)→
 (∀(i:Nat) o m,os[i]? =some o→ms[i]? =some (some m)→∃x v d,o.dst=some d∧tmps[d]? =some v∧u2 (m.2 x).2=B (k+i)∧(B (k+i)).Nodup∧Rel w Oq (m.2 x).1 v∧(∀r∈(m.2 x).2,r.holds w Oq)∧∀b∈B (k+i),¬X b)→
 (∀(i:Nat),ms[i]? =some none→B (k+i)= [])→(∀i,k+os.length≤i→B i= [])→ms.length=os.length→
 (∀d av,lk e d=some av→∃v,tmps[d]? =some v∧Rel w Oq av v)→zam os ms e hc K→
 ∃e' h',K e' h'∧HRel X w h'∧OO h' X=Oq∧(∀d av,lk e' d=some av→∃v,tmps[d]? =some v∧Rel w Oq av v)∧(∀d,lk e d≠none→lk e' d≠none)∧(∀(i:Nat) o m d,os[i]? =some o→ms[i]? =some (some m)→o.dst=some d→lk e' d≠none)∧
  (∀b,b∈u2 h'→b∈u2 hc∨∃i,b∈B i)
 | [],ms,k,e,hc,hh,hO,hinj,hmk,hno,hend,hml,he,hd=>by
   have hXX:(fun b=>X b∨∃i:Nat,k≤i∧b∈B i)=X:=by
    funext b;simp only [eq_iff_iff]
    exact ⟨fun hm=>hm.elim id fun ⟨i,hi,hb⟩=>(by rw [hend i (by simpa using hi)] at hb;cases hb),.inl⟩
   rw [hXX] at hh hO
   have hd':K e hc:=by cases ms <;> simpa [zam] using hd
   exact ⟨e,hc,hd',hh,hO,he,fun _ h=>h,fun i o m d h=>by simp at h,fun b hb=> .inl hb⟩
 |o::os,[],k,e,hc,hh,hO,hinj,hmk,hno,hend,hml,he,hd=>by simp at hml
 |o::os,none::ms,k,e,hc,hh,hO,hinj,hmk,hno,hend,hml,he,hd=>by
  have shift:∀(i:Nat),k+1+i=k+(i+1):=fun i=>by omega
  have hB0:=hno 0 rfl
  rw [Nat.add_zero] at hB0
  have hX1:(fun x=>X x∨∃i:Nat,k≤i∧x∈B i)=fun x=>X x∨∃i:Nat,k+1≤i∧x∈B i:=by
   funext x;simp only [eq_iff_iff]
   constructor
   ·rintro (hx|⟨i,hi,hb⟩)
    ·exact .inl hx
    ·by_cases hik:i=k
     ·subst hik;rw [hB0] at hb;cases hb
     ·exact .inr ⟨i,by omega,hb⟩
   ·rintro (hx|⟨i,hi,hb⟩)
    ·exact .inl hx
    ·exact .inr ⟨i,by omega,hb⟩
  rw [hX1] at hh hO
  obtain ⟨e',h',r1,r2,r3,r4,r5,r6,r7⟩:=zla os ms (k+1) e hc hh hO hinj (fun i o' m ho' hm'=>by rw [shift];exact hmk (i+1) o' m (by simpa using ho') (by simpa using hm')) (fun i hm'=>by rw [shift];exact hno (i+1) (by simpa using hm'))
   (fun i hi=>hend i (by simp;omega)) (by simpa using hml) he (by simpa [zam] using hd)
  refine ⟨e',h',r1,r2,r3,r4,r5,fun i o' m d2 ho' hm' hd'=> ?_,r7⟩
  cases i with
  |zero=>simp at hm'
  |succ i=>exact r6 i o' m d2 (by simpa using ho') (by simpa using hm') hd'
 |o::os,some m::ms,k,e,hc,hh,hO,hinj,hmk,hno,hend,hml,he,hd=>by
  have shift:∀(i:Nat),k+1+i=k+(i+1):=fun i=>by omega
  obtain ⟨x,v,d,h1,h2,h3,h4,h5,h6,h7⟩:=hmk 0 o m rfl rfl
  rw [Nat.add_zero] at h3 h4 h7
  have hX1:(fun y=>X y∨∃i:Nat,k≤i∧y∈B i)=Sub (fun y=>X y∨∃i:Nat,k+1≤i∧y∈B i) (u2 (m.2 x).2):=by
   funext y;simp only [Sub,eq_iff_iff,h3]
   constructor
   ·rintro (hx|⟨i,hi,hb⟩)
    ·exact .inl (.inl hx)
    ·by_cases hik:i=k
     ·subst hik;exact .inr hb
     ·exact .inl (.inr ⟨i,by omega,hb⟩)
   ·rintro ((hx|⟨i,hi,hb⟩)|hb)
    ·exact .inl hx
    ·exact .inr ⟨i,by omega,hb⟩
    ·exact .inr ⟨k,Nat.le_refl _,hb⟩
  rw [hX1] at hh hO
  have hh2:=HRel.addres hh (by rw [h3];exact h4) (fun b hb=>fun q=>by
   rw [h3] at hb
   rcases q with q|⟨i,hi,hb'⟩
   ·exact h7 b hb q
   ·have:=hinj i k b hb' hb;omega) (fun r hr=>by rw [hO];exact h6 r hr)
  have hO2:OO ((m.2 x).2++hc) (fun y=>X y∨∃i:Nat,k+1≤i∧y∈B i)=Oq:=by
   rw [←hO]
   funext b;simp only [OO,Sub,x8,List.mem_append,eq_iff_iff]
   exact ⟨fun q=>by rcases q with (q|q)|q <;> simp [q],fun q=>by rcases q with q|q|q <;> simp [q]⟩
  have hd2:zam os ms ((d,(m.2 x).1)::e) ((m.2 x).2++hc) K:=by
   simp only [zam] at hd;exact hd d x h1
  obtain ⟨e',h',r1,r2,r3,r4,r5,r6,r7⟩:=zla os ms (k+1) _ _ hh2 hO2 hinj (fun i o' m ho' hm'=>by rw [shift];exact hmk (i+1) o' m (by simpa using ho') (by simpa using hm')) (fun i hm'=>by rw [shift];exact hno (i+1) (by simpa using hm'))
   (fun i hi=>hend i (by simp;omega)) (by simpa using hml) (fun d2 av h=>by
    simp only [lk] at h
    split at h
    ·rename_i hb
     have:=Nat.eq_of_beq_eq_true hb
     subst this
     cases h
     exact ⟨v,h2,h5⟩
    ·exact he d2 av h) hd2
  refine ⟨e',h',r1,r2,r3,r4,fun d2 h=>r5 d2 ?_,fun i o' m' d2 ho' hm' hd'=> ?_,fun y hy=> ?_⟩
  ·simp only [lk];split
   ·simp
   ·exact h
  ·cases i with
   |zero=>
    simp only [List.getElem?_cons_zero,Option.some.injEq] at ho'
    subst ho'
    have:d2=d:=Option.some.inj (hd'.symm.trans h1)
    subst this
    exact r5 d2 (by simp [lk])
   |succ i=>exact r6 i o' m' d2 (by simpa using ho') (by simpa using hm') hd'
  ·rcases r7 y hy with hy|hy
   ·rw [x8,List.mem_append] at hy
    rcases hy with hy|hy
    ·exact .inr ⟨k,h3 ▸ hy⟩
    ·exact .inl hy
   ·exact .inr hy
def zdm (ms:List (Option CM)):List Res:=ms.flatMap fun m=>match m with
 |some m=>m.1
 |none=> []
def yet (m:Option CM):List Nat:=match m with
 |some m=>u2 m.1
 |none=> []
def zcj (ms:List (Option CM)) (i:Nat):List Nat:=match ms[i]? with
 |some (some m)=>u2 m.1
 |_=> []
theorem zdv:∀{ms:List (Option CM)} {b:Nat},(∃i,b∈zcj ms i) ↔ b∈u2 (zdm ms)
 | [],b=>by simp [zcj,zdm,u2]
 |m::ms,b=>by
  have ih:=zdv (ms:=ms) (b:=b)
  have e:u2 (zdm (m::ms))=yet m++u2 (zdm ms):=by
   cases m <;> simp [zdm,x8,u2,yet]
  rw [e,List.mem_append,←ih]
  constructor
  ·rintro ⟨i,h⟩
   cases i with
   |zero=>left;cases m <;> simp [zcj,yet] at h ⊢;exact h
   |succ i=>exact .inr ⟨i,by simpa [zcj] using h⟩
  ·rintro (h|⟨i,h⟩)
   ·exact ⟨0,by cases m <;> simp [zcj,yet] at h ⊢;exact h⟩
   ·exact ⟨i+1,by simpa [zcj] using h⟩
theorem zmi:∀{ms:List (Option CM)},(u2 (zdm ms)).Nodup→(∀(i j:Nat) b,b∈zcj ms i→b∈zcj ms j→i=j)∧∀i,(zcj ms i).Nodup
 | [],_=>⟨fun i j b h=>by simp [zcj] at h,fun i=>by simp [zcj]⟩
 |m::ms,hn=>by
  have e:u2 (zdm (m::ms))=yet m++u2 (zdm ms):=by
   cases m <;> simp [zdm,x8,u2,yet]
  have e0:zcj (m::ms) 0=yet m:=by cases m <;> rfl
  have e1:∀i,zcj (m::ms) (i+1)=zcj ms i:=fun i=>by simp [zcj]
  rw [e,List.nodup_append] at hn
  obtain ⟨h1,h2⟩:=zmi hn.2.1
  refine ⟨fun i j b hi hj=> ?_,fun i=> ?_⟩
  ·cases i with
   |zero=>
    cases j with
    |zero=>rfl
    |succ j=>
     rw [e0] at hi;rw [e1] at hj
     exact absurd rfl (hn.2.2 b hi b (zdv.1 ⟨j,hj⟩))
   |succ i=>
    cases j with
    |zero=>
     rw [e0] at hj;rw [e1] at hi
     exact absurd rfl (hn.2.2 b hj b (zdv.1 ⟨i,hi⟩))
    |succ j=>rw [e1] at hi hj;rw [h1 i j b hi hj]
  ·cases i with
   |zero=>rw [e0];exact hn.1
   |succ i=>rw [e1];exact h2 i
theorem ztq {P:Program} {ro:Option Nat} {nt rid:Nat} {Q:Exit→St→Prop} {l:List Oper} {t:Fr} {hh:List Res} {dsl:List Nat} (n:Nat) (h:List Res) [hm:Mixed P] (hc:zly l n=true)
 (hk:zbh P ro nt h dsl l (zcf l n) t (l.take n) [] (fun e ms=>hh.Perm (zdm ms++h)∧zam (l.take n) ms e h (fun e' h'=>zca P ro nt l.toArray (l.drop n) Q ⟨e'++t,h',dsl⟩))):aw P ro nt (.region rid l.toArray true) Q ⟨t,hh,dsl⟩:=by
 intro X a0 w0 hs
 have hC:=zsi hc
 obtain ⟨aS,ms,hfacts,hp,hK⟩:=zkz hk
 have hperm:=hs.heap.perm hp
 have hown0:∀b,b∈u2 hh ↔ b∈u2 h∨b∈u2 (zdm ms):=fun b=>by rw [(zbq hp).mem_iff,x8,List.mem_append];exact Or.comm
 have hasl:aS.length=n:=by have:=hfacts.length.1;rw [this];have:=hC.le;simp;omega
 have hmsl:ms.length=n:=by have:=hfacts.length.2;rw [this];have:=hC.le;simp;omega
 refine wpIn_region_any hm.h ?_
 have main:∀(fuel:Nat) (U:List Nat) (B:Nat→List Nat) (listed:Array Bool) (a:Act) (w:World),zob P X nt h (u2 (zdm ms)) l n t dsl aS ms w0 B listed a w→(∀i,i < l.length→listed.getD i false=false→i∈U)→U.length≤fuel→
  wpAnyIn (FW ro) 0 P .any l.toArray (zn5 X nt ⟨t,hh,dsl⟩ w0 Q) fuel listed a w:=by
  have done:∀(fuel:Nat) (U:List Nat) (B:Nat→List Nat) (listed:Array Bool) (a:Act) (w:World),zob P X nt h (u2 (zdm ms)) l n t dsl aS ms w0 B listed a w→(∀i,i < l.length→listed.getD i false=false→i∈U)→U.length≤fuel→
   (∀i,i < n→listed.getD i false=true)→wpAnyIn (FW ro) 0 P .any l.toArray (zn5 X nt ⟨t,hh,dsl⟩ w0 Q) fuel listed a w:=by
   intro fuel U B listed a w hi hU hf hall
   refine zms hC.toSoupT fuel U n listed a w (Nat.le_refl _) hC.le hi.size (fun j hj=>⟨fun hl=> ?_,fun hl=>hall j hl⟩) (fun i h1 h2=>hU i h2 (hi.tail i h1)) hf ?_
   ·rcases Nat.lt_or_ge j n with h|h
    ·exact h
    ·rw [hi.tail j h] at hl;cases hl
   ·have hlt:∀(i:Nat) o,(l.take n)[i]? =some o→i < n∧l[i]? =some o:=fun i o ho=>by
     have:=(List.getElem?_eq_some_iff.1 ho).1
     have hin:i < n:=by simp at this;omega
     exact ⟨hin,by rw [List.getElem?_take_of_lt hin] at ho;exact ho⟩
    have hX0:(fun b=>X b∨∃i:Nat,0≤i∧b∈B i)=XB X B:=by funext b;simp [XB]
    obtain ⟨e',h',r1,r2,r3,r4,r5,r6,r7⟩:=zla (X:=X) (tmps:=a.tmps) (w:=w) (B:=B) (Oq:=OO h (XB X B)) (l.take n) ms 0 _ h (by rw [hX0];exact hi.heap) (by rw [hX0]) hi.inj
     (fun i o m ho hms=>by
      obtain ⟨hin,hlo⟩:=hlt i o ho
      rcases hfacts.at i o ho with ⟨a',_,g,_⟩|⟨m',_,g,d,hd,_⟩
      ·rw [g] at hms;cases hms
      ·obtain ⟨x,v,q1,q2,q3,q4,q5⟩:=hi.mks i o d m hin hlo hd hms (hall i hin)
       rw [Nat.zero_add]
       exact ⟨x,v,d,hd,q1,q2,q3,q4,q5,fun b hb=>(hi.blk i b hb).2.1⟩)
     (fun i hms=>by rw [Nat.zero_add];exact hi.nomk i hms)
     (fun i hin=>by
      cases hb:B i with
      |nil=>rfl
      |cons b r=>have:=(hi.blk i b (by simp [hb])).1;simp at hin;have:=hC.le;omega)
     (by rw [hmsl];have:=hC.le;simp;omega)
     (fun d av hl=>by
      rcases zji hl with ⟨i,o,g1,g2,g4⟩|g1
      ·obtain ⟨hin,hlo⟩:=hlt i o g1
       exact hi.vals i o d av hin hlo g4 g2 (hall i hin)
      ·simp [lk] at g1) hK
    have hsim:Sim X nt ⟨e'++t,h',dsl⟩ a w:=by
     refine ⟨r2,hi.tsz,fun d av hl=> ?_,hi.defs⟩
     show ∃v,a.tmps[d]? =some v∧Rel w (OO h' X) av v
     rw [r3]
     have hl':lk (e'++t) d=some av:=hl
     rw [v6] at hl'
     cases he:lk e' d with
     |some av'=>simp only [he] at hl';cases hl';exact r4 d _ he
     |none=>
      simp only [he] at hl'
      refine hi.base d av (fun j hj hd=> ?_) hl'
      obtain ⟨o,g1⟩:∃o,l[j]? =some o:=⟨l[j]'(by have:=hC.le;omega),by simp [show j < l.length by have:=hC.le;omega]⟩
      have g2:o.dst=some d:=by simpa [u7,g1] using hd
      have ho:(l.take n)[j]? =some o:=by rw [List.getElem?_take_of_lt hj];exact g1
      rcases hfacts.at j o ho with ⟨a',q1,_⟩|⟨m',_,q1,_⟩
      ·exact r5 d (znc ho q1 g2) he
      ·exact r6 j o m' d ho q1 g2 he
    have:=r1 X a w hsim
    refine zaj (s:=⟨t,hh,dsl⟩) (s':=⟨e'++t,h',dsl⟩) ⟨hi.keep.size,fun b hb hn=>⟨(hi.keep.same b hb (fun q=>hn ((hown0 b).2 (List.mem_append.1 q)))).1,fun hm=> ?_⟩,hi.keep.env⟩ this
    rcases r7 b hm with hm|⟨i,hB⟩
    ·exact hn ((hown0 b).2 (.inl hm))
    ·rcases (hi.blk i b hB).2.2 with q|q
     ·omega
     ·exact hn ((hown0 b).2 (.inr q))
  intro fuel
  induction fuel with
  |zero=>
   intro U B listed a w hi hU hf
   refine done 0 U B listed a w hi hU hf fun i hin=> ?_
   have hU0:U= []:=List.eq_nil_of_length_eq_zero (by omega)
   cases hl:listed.getD i false with
   |true=>rfl
   |false=>have:=hU i (by have:=hC.le;omega) hl;simp [hU0] at this
  |succ fuel ih=>
   intro U B listed a w hi hU hf
   by_cases hall:∀i,i < n→listed.getD i false=true
   ·exact done _ U B listed a w hi hU hf hall
   ·have hready:∀i,i∈Region.ready .any l.toArray listed→i < n∧listed.getD i false=false∧i < l.length∧∀j∈q9 l i,listed.getD j false=true:=by
     intro i hir
     obtain ⟨h1,h2,h3⟩:=zdx.1 hir
     have hun:listed.getD i false=false:=by rw [zfw (by rw [hi.size];exact h2) false true];exact h1
     refine ⟨?_,hun,h2,h3⟩
     rcases Nat.lt_or_ge i n with h|h
     ·exact h
     ·exfalso
      apply hall
      intro j hj
      exact zax hi.closed i _ h3 j (hC.tail i h h2 j (by omega))
    have hsome:∀m,(∃i,i < n∧i < m∧listed.getD i false=false)→Region.ready .any l.toArray listed≠ []:=by
     intro m
     induction m with
     |zero=>rintro ⟨i,_,h,_⟩;omega
     |succ m ihm=>
      rintro ⟨i,hin,him,hun⟩
      by_cases hp:∀j∈q9 l i,listed.getD j false=true
      ·intro h0
       have hin':i < l.length:=by have:=hC.le;omega
       have:i∈Region.ready .any l.toArray listed:=zdx.2 ⟨by rw [zfw (by rw [hi.size];exact hin') true false];exact hun,hin',hp⟩
       rw [h0] at this;exact absurd this (by simp)
      ·have:∃j,j∈q9 l i∧listed.getD j false=false:=by
        refine Classical.byContradiction fun hne=>hp fun j hj=> ?_
        cases hl:listed.getD j false with
        |true=>rfl
        |false=>exact absurd ⟨j,hj,hl⟩ hne
       obtain ⟨j,hj,hjun⟩:=this
       have:=hC.back i (by have:=hC.le;omega) j hj
       exact ihm ⟨j,by omega,by omega,hjun⟩
    refine ⟨fun h0=> ?_,fun i hir=> ?_⟩
    ·exfalso
     have:∃i,i < n∧listed.getD i false=false:=by
      refine Classical.byContradiction fun hne=>hall fun i hin=> ?_
      cases hl:listed.getD i false with
      |true=>rfl
      |false=>exact absurd ⟨i,hin,hl⟩ hne
     obtain ⟨i,hin,hun⟩:=this
     exact hsome (i+1) ⟨i,hin,by omega,hun⟩ h0
    ·obtain ⟨hin,hun,hil,hp⟩:=hready i hir
     have ho:l[i]? =some l[i]:=by simp [hil]
     generalize l[i]=o at ho
     have hU':∀k,k < l.length→(listed.setIfInBounds i true).getD k false=false→k∈U.erase i:=fun k hkl hk=>by
      have hki:i≠k:=fun e=>by subst e;rw [zar (by rw [hi.size];exact hil)] at hk;cases hk
      rw [getD_set_ne false hki] at hk
      exact (List.mem_erase_of_ne (fun h=>hki h.symm)).2 (hU k hkl hk)
     have hf':(U.erase i).length≤fuel:=by rw [List.length_erase_of_mem (hU i hil hun)];omega
     unfold wpOpIn
     simp only [List.getElem?_toArray,ho]
     rcases hfacts.at i o (by rw [List.getElem?_take_of_lt hin];exact ho) with ⟨av,q1,q2,d,hd,hdn,q3⟩|⟨m,q1,q2,d,hd,hdn,hgn,q3⟩
     ·rcases q3 with ⟨hg,hq⟩|⟨hg,rfl⟩
      ·rw [if_pos (hi.guard hC ho hin hp hg)]
       refine hq _ a w _ _ (hi.env hC ho hin hp) fun v w' hr hh hkp=> ?_
       rw [hd]
       exact ih (U.erase i) B _ _ _ (hi.stepQ hC ho hin hp hd (Nat.le_of_ble_eq_true hdn) q1 q2 hr hh hkp) hU' hf'
      ·rw [if_neg (by rw [hi.guard hC ho hin hp hg];simp)]
       refine ⟨j7,?_⟩
       rw [hd]
       exact ih (U.erase i) B _ _ _ (hi.stepQ hC ho hin hp hd (Nat.le_of_ble_eq_true hdn) q1 q2 (.v _) hi.heap (.refl _ _)) hU' hf'
     ·rw [if_pos (by simp [Region.wanted,hgn])]
      obtain ⟨o1,o2⟩:=hi.open hin q2 hun
      have henv:=hi.env hC ho hin hp
      refine q3 _ a w _ _ hi.tsz hi.defs ⟨o1,fun z av hz=>by rw [o2];exact henv.rel z av hz⟩ fun x v w' hr hh hkp=> ?_
      rw [hd]
      exact ih (U.erase i) _ _ _ _ (hi.stepM hC ho hin hp hd (Nat.le_of_ble_eq_true hdn) q1 q2 hun hr hh hkp) hU' hf'
 have hX0:XB X (zcj ms)=Sub X (u2 (zdm ms)):=by funext b;simp only [XB,Sub,zdv]
 have hpart:HRel (Sub X (u2 (zdm ms))) w0 h:=(hperm.perm List.perm_append_comm).part
 have hO0:OO h (XB X (zcj ms))=OO hh X:=by
  rw [hX0];funext b;simp only [OO,Sub,hown0,eq_iff_iff]
  exact ⟨fun q=>by rcases q with q|q|q <;> simp [q],fun q=>by rcases q with (q|q)|q <;> simp [q]⟩
 have hnd:=hperm.nodup
 rw [x8,List.nodup_append] at hnd
 obtain ⟨hinj,hndi⟩:=zmi hnd.1
 have hsz:l.toArray.size=l.length:=by simp
 have hrep:∀i,(Array.replicate l.length false).getD i false=false:=znn l.length
 refine main l.toArray.size (List.range l.length) (zcj ms) _ a0 {w0 with drawn:=w0.drawn+1} ⟨by simp,fun i hi=> ?_,fun i _=> ?_,hs.size,hs.defs,?_,hinj,fun i b h=> ?_,fun i m hin hms _=> ?_,fun i o d m _ _ _ _ h=> ?_,fun i h=> ?_,fun i o d av _ _ _ _ h=> ?_,fun d av _ hl=> ?_,⟨Nat.le_refl _,fun b _ h=>⟨rfl,h⟩,zg7.eq rfl rfl rfl (by first|exact Nat.le_refl _|exact Nat.le_succ _)⟩⟩
  (fun i hi _=>List.mem_range.2 hi) (by simp)
 ·rw [hsz,hrep i] at hi;cases hi
 ·rw [hsz];exact hrep i
 ·rw [hX0];exact hpart.grow (Nat.le_refl _) fun _ _=>rfl
 ·refine ⟨?_,fun hx=> ?_,.inr (zdv.1 ⟨i,h⟩)⟩
  ·rw [←hmsl]
   unfold zcj at h
   split at h
   ·rename_i m hm;exact (List.getElem?_eq_some_iff.1 hm).1
   ·cases h
  ·exact (hperm.lt b (by rw [x8];exact List.mem_append_left _ (zdv.1 ⟨i,h⟩))).2 hx
 ·refine ⟨by simp [zcj,hms],hndi i,fun r hr=> ?_⟩
  rw [hO0]
  have hmem:r∈zdm ms++h:=List.mem_append_left _ (List.mem_flatMap.2 ⟨some m,List.mem_of_getElem? hms,hr⟩)
  have:=hperm.holds r hmem
  rw [←zcr hp] at this
  exact Res.holds_keep (w:=w0) (Nat.le_refl _) (fun b hb _=>⟨rfl,hb⟩) (fun _ _=>rfl) this
 ·rw [hsz,hrep i] at h;cases h
 ·simp [zcj,h]
 ·rw [hsz,hrep i] at h;cases h
 ·rw [hO0]
  obtain ⟨v,e,r⟩:=hs.fr d av hl
  exact ⟨v,e,Rel.keep (w:=w0) (Nat.le_refl _) (fun b hb _=>⟨rfl,hb⟩) r⟩
theorem zhu {P:Program} {ro:Option Nat} {nt rid:Nat} {Q:Exit→St→Prop} {l:List Oper} {t:Fr} {h:List Res} {dsl:List Nat} (n:Nat) [hm:Mixed P] (hc:zly l n=true)
 (hk:zbh P ro nt h dsl l (zcf l n) t (l.take n) [] (fun e ms=>h.Perm (zdm ms++h)∧zam (l.take n) ms e h (fun e' h'=>zca P ro nt l.toArray (l.drop n) Q ⟨e'++t,h',dsl⟩))):aw P ro nt (.region rid l.toArray true) Q ⟨t,h,dsl⟩:=
 ztq n h hc hk
section
variable {P:Program} {ro:Option Nat} {nt:Nat} {h:List Res} {dsl:List Nat} {l:List Oper} {sd:List Tmp} {t0:Fr} {rest:List Oper} {e:Fr} {K:Fr→List (Option CM)→Prop} {o:Oper} {av:AV} {d:Tmp} {op:Op} {ty:TypeId} {pos:String} {after:Array Edge} {g:Option (Nat×Bool)} {x y z:Operand}
theorem mq (hg:gdS l (lkS sd (zac l ⟨some d,op,ty,pos,after,g⟩) e t0) ⟨some d,op,ty,pos,after,g⟩=some true) (hd:Nat.blt d nt=true)
 (hq:QR P h (evS sd (zac l ⟨some d,op,ty,pos,after,g⟩) e t0) ⟨some d,op,ty,pos,after,g⟩ av) (hk:zbh P ro nt h dsl l sd t0 rest ((d,av)::e) (fun e ms=>K e (none::ms)))
 (hn:zao ⟨some d,op,ty,pos,after,g⟩=true:=by rfl):zbh P ro nt h dsl l sd t0 (⟨some d,op,ty,pos,after,g⟩::rest) e K:=
 .inl ⟨d,av,rfl,⟨d,rfl,hd,.inl ⟨hg,ze0 hq hn⟩⟩,hk⟩
theorem mv (hg:gdS l (lkS sd (zac l ⟨some d,op,ty,pos,after,g⟩) e t0) ⟨some d,op,ty,pos,after,g⟩=some true) (hd:Nat.blt d nt=true)
 (hq:QV P ro h (evS sd (zac l ⟨some d,op,ty,pos,after,g⟩) e t0) ⟨some d,op,ty,pos,after,g⟩ av) (hk:zbh P ro nt h dsl l sd t0 rest ((d,av)::e) (fun e ms=>K e (none::ms))):
 zbh P ro nt h dsl l sd t0 (⟨some d,op,ty,pos,after,g⟩::rest) e K:=
 .inl ⟨d,av,rfl,⟨d,rfl,hd,.inl ⟨hg,hq⟩⟩,hk⟩
theorem ms (hg:gdS l (lkS sd (zac l ⟨some d,op,ty,pos,after,g⟩) e t0) ⟨some d,op,ty,pos,after,g⟩=some false) (hd:Nat.blt d nt=true) (hk:zbh P ro nt h dsl l sd t0 rest ((d,.v (.tuple #[]))::e) (fun e ms=>K e (none::ms))):
 zbh P ro nt h dsl l sd t0 (⟨some d,op,ty,pos,after,g⟩::rest) e K:=
 .inl ⟨d,.v undef,rfl,⟨d,rfl,hd,.inr ⟨hg,rfl⟩⟩,hk⟩
theorem ygz (hk:K e []):zbh P ro nt h dsl l sd t0 [] e K:=hk
theorem zll {args:List Operand} {tys:Array TypeId} {fv:AV} {avs:List AV} (m:MR) (hd:Nat.blt d nt=true) (hx:evS sd (zac l ⟨some d,.call ⟨.value x,args.toArray,tys⟩,ty,pos,after,none⟩) e t0 x=some fv)
 (ha:evs (evS sd (zac l ⟨some d,.call ⟨.value x,args.toArray,tys⟩,ty,pos,after,none⟩) e t0) args=some avs) (hc:y3 P fv avs h (fun r h'=>∃x,r=(m x).1∧h'=(m x).2++h))
 (hk:zbh P ro nt h dsl l sd t0 rest e (fun e ms=>K e (some ([],m)::ms))):zbh P ro nt h dsl l sd t0 (⟨some d,.call ⟨.value x,args.toArray,tys⟩,ty,pos,after,none⟩::rest) e K:=by
 refine .inr ⟨([],m),⟨d,rfl,hd,rfl,fun X a w K Q _ _ he hK=> ?_⟩,hk⟩
 refine zjz (f:=0) (hc X w _ _ he.heap (he.rel x _ hx) (he.evs ha)) ?_
 rintro e w' ⟨v,av',h',e1,⟨x,rfl,rfl⟩,hrel,hh,hkeep⟩
 exact ⟨v,e1,hK x v w' hrel hh hkeep⟩
theorem ye0 {o:Oper} {os:List Oper} {ms:List (Option CM)} {e:Fr} {h:List Res} {K:Fr→List Res→Prop} (hk:zam os ms e h K):zam (o::os) (none::ms) e h K:=hk
theorem zq9 {e:Fr} {h:List Res} {K:Fr→List Res→Prop} (hk:K e h):zam [] [] e h K:=hk
end
def MX.v0 (x:MX):SV:=x.vs.headD ⟨none,0,0⟩
abbrev zq6 (sz:Nat) (T:TypeId) (rows:List (List AV)):MR:=fun x=>(.v x.v0.v,[.row x.v0.v sz T rows])
theorem y3.rowS {P:Program} {fv:AV} {args:List AV} {h:List Res} {sz:Nat} {T:TypeId} {rows:List (List AV)} (hc:y3 P fv args h (fun r h'=>∃s,h'= [.row s sz T rows]∧r= .v s)):
 y3 P fv args h (fun r h'=>∃s:SV,h'= [.row s.v sz T rows]∧r= .v s.v):=by
 intro X w v vs hh hv ha
 refine (hc X w v vs hh hv ha).mono ?_
 rintro e w' ⟨u,av,h',e1,⟨s,rfl,rfl⟩,hrel,hh',hk⟩
 have q:=hh'.holds _ (List.mem_singleton.2 rfl)
 cases s with
 |slice a n c=>exact ⟨u,_,_,e1,⟨⟨a,n,c⟩,rfl,rfl⟩,hrel,hh',hk⟩
 |_=>exact q.elim
theorem zgm {P:Program} {fv:AV} {args:List AV} {h:List Res} {sz:Nat} {T:TypeId} {rows:List (List AV)} (hc:y3 P fv args [] (fun r h'=>∃s,h'= [.row s sz T rows]∧r= .v s)):
 y3 P fv args h (fun r h'=>∃x,r=(zq6 sz T rows x).1∧h'=(zq6 sz T rows x).2++h):=by
 refine (hc.rowS.frame h).mono ?_
 rintro r _ ⟨h1,rfl,s,rfl,rfl⟩
 exact ⟨⟨[s],[]⟩,rfl,rfl⟩
theorem zdz {op:Op} {ty:TypeId} {pos:String} {after:Array Edge} {g:Option (Nat×Bool)} {d:Tmp} {os:List Oper} {sz:Nat} {T:TypeId} {rows:List (List AV)} {c:List Res} {ms:List (Option CM)} {e:Fr} {h:List Res} {K:Fr→List Res→Prop}
 (hk:∀s:SV,zam os ms ((d,.v s.v)::e) (.row s.v sz T rows::h) K):zam (⟨some d,op,ty,pos,after,g⟩::os) (some (c,zq6 sz T rows)::ms) e h K:=fun d' x e=>by cases e;exact hk x.v0
theorem zi0 {P:Program} {h:List Res} {f:Operand→Option AV} {dst:Option Tmp} {ty:TypeId} {pos:String} {after:Array Edge} {guard:Option (Nat×Bool)} {x:Operand} {T FT E:TypeId} {s:Value} {k sz i kk off n ri:Nat} {rows:List (List AV)} (hx:f x=some (.rp s sz i kk)) [hr:HasRow h s ri sz E rows] [hf:Fld P T k off FT] [Siz P FT n] (hn:n≠0):
 QR P h f ⟨dst,.fieldAddr T x k,ty,pos,after,guard⟩ (.rp s sz i (kk+off)):=fun X ρ w he=>by
 have hrr:=he.rel x _ hx
 generalize hv:ρ x=v at hrr
 cases hrr with
 |rp a len cap _ _ _=>
  have hx2:=he.heap.holds _ (List.mem_of_getElem? hr.h)
  obtain ⟨h1,_⟩:=hx2
  obtain ⟨b,o,spot⟩:=a
  simp only at h1;subst h1
  refine ⟨_,run_v _ (by rw [hv,zal];exact zey (n:=n) (FT:=FT) hn),?_⟩
  have:=Rel.rp (w:=w) (O:=OO h X) ⟨b,o,none⟩ len cap sz i (kk+off)
  rw [zal,←Nat.add_assoc (i * sz),←Nat.add_assoc o] at this
  exact this
theorem zak {P:Program} {ro:Option Nat} {nt:Nat} {ops:Array Oper} {l:List Oper} {Q:Exit→St→Prop} {t:Fr} {h:List Res} {ds:List Nat} (s:Value) {i sz:Nat} {T:TypeId} {rows:List (List AV)} [hr:HasRow h s i sz T rows]
 (k:∀v:SV,s=v.v→zca P ro nt ops l Q ⟨t,h,ds⟩):zca P ro nt ops l Q ⟨t,h,ds⟩:=fun X a w hs=>by
 have q:=hs.heap.holds _ (List.mem_of_getElem? hr.h)
 cases s with
 |slice a' n c=>exact k ⟨a',n,c⟩ rfl X a w hs
 |_=>exact q.elim
section
variable {P:Program} {ro:Option Nat} {nt:Nat} {h:List Res} {dsl:List Nat} {l:List Oper} {sd:List Tmp} {t0:Fr} {rest:List Oper} {e:Fr} {K:Fr→List (Option CM)→Prop} {d i j:Tmp} {ty:TypeId} {pos:String} {after:Array Edge}
theorem yof {T T2 E E2 bytes sz:Nat} {zv:Value} {full:Bool} {s:Value} {xs ys:List (List AV)} (hd:Nat.blt d nt=true) (hi:Nat.blt i nt=true) (hj:Nat.blt j nt=true) (hij:Nat.beq i j=false)
 (hx:evS sd (zac l ⟨some d,.call ⟨.builtin .append,[.tmp i,.tmp j].toArray,[T,T2].toArray⟩,ty,pos,after,none⟩) e t0 (.tmp i)=some (.v s))
 (hy:evS sd (zac l ⟨some d,.call ⟨.builtin .append,[.tmp i,.tmp j].toArray,[T,T2].toArray⟩,ty,pos,after,none⟩) e t0 (.tmp j)=some (.list full sz ys))
 [Und P T (.slice E)] [Und P T2 (.slice E2)] [Siz P E sz] [Byt P E bytes] [ZerV P E zv] (hneed:xs.length+ys.length≤1099511627776) (hone:∀r∈ys,r.all AV.one=true)
 (hk:zbh P ro nt h dsl l sd t0 rest e (fun e ms=>K e (some ([.row s sz E xs],zq6 sz E (xs++ys))::ms))) (hb:bytes≤128:=by decide) (hzs:zv.cells.size=sz:=by rfl):
 zbh P ro nt h dsl l sd t0 (⟨some d,.call ⟨.builtin .append,[.tmp i,.tmp j].toArray,[T,T2].toArray⟩,ty,pos,after,none⟩::rest) e K:=by
 refine .inr ⟨([.row s sz E xs],zq6 sz E (xs++ys)),⟨d,rfl,hd,rfl,fun X a w K' Q h1 h2 he hK=> ?_⟩,hk⟩
 have hlt:∀{k:Nat},Nat.blt k nt=true→k < nt:=fun q=>Nat.le_of_ble_eq_true q
 have hget:∀{k:Nat},Nat.blt k nt=true→a.tmps[k]? =some (a.eval (.tmp k)):=fun {k} q=>by
  have:=hlt q
  simp [Act.eval,Array.getD_eq_getD_getElem?,show k < a.tmps.size by omega]
 have hs:Sim X nt ⟨[(i,.v s),(j,.list full sz ys)],.row s sz E xs::h,dsl⟩ a w:=by
  refine ⟨he.heap,h1,fun k av hkk=> ?_,h2⟩
  simp only [lk] at hkk
  split at hkk
  ·rename_i hb'
   have:=Nat.eq_of_beq_eq_true hb'
   subst this;cases hkk
   exact ⟨_,hget hi,he.rel _ _ hx⟩
  ·split at hkk
   ·rename_i hb'
    have:=Nat.eq_of_beq_eq_true hb'
    subst this;cases hkk
    exact ⟨_,hget hj,he.rel _ _ hy⟩
   ·cases hkk
 have hO:=j8 (P:=P) (ro:=ro) (nt:=nt) (x:= .tmp i) (y:= .tmp j) (T:=T) (T2:=T2) (ty:=ty) (pos:=pos) (after:=after) (guard:=none) (h:= .row s sz E xs::h) (d:=d) (ds:=dsl) (s:=s) (xs:=xs) (ys:=ys) (full:=full) (sz:=sz) (E:=E) (E2:=E2) (bytes:=bytes) (zv:=zv) (i:=0) (h':=fun s'=> .row s' sz E (xs++ys)::h) (next:=fun s'=>∃s2,s'=⟨(d,.v s2):: [(i,.v s),(j,.list full sz ys)],.row s2 sz E (xs++ys)::h,dsl⟩) (t:= [(i,.v s),(j,.list full sz ys)]) (by simp [ev,lk]) (by simp [ev,lk,hij]) hneed hd (fun s2=>⟨s2,rfl⟩) hone hb hzs
 have hw:=hO X a w (fun a' w'=>∀v,a'=a.put (some d) v→K' (a.put (some d) v) w') Q hs (by
  rintro _ a' w' ⟨s2,rfl⟩ hs' hkp v hv
  obtain ⟨v2,e2,r2⟩:=hs'.fr d (.v s2) (by simp [lk])
  have hv2:v2=v:=by
   subst hv
   have hdl:d < a.tmps.size:=by rw [h1];exact hlt hd
   simp [Act.put,hdl] at e2
   exact e2.symm
  have q:=hs'.heap.holds _ (List.mem_cons_self)
  have hvs:=r2.v_eq
  subst hv2;subst hvs
  cases v2 with
  |slice a0 n0 c0=>exact hK ⟨[⟨a0,n0,c0⟩],[]⟩ _ _ (.v _) hs'.heap hkp
  |_=>exact q.elim)
 refine ⟨hw.1,?_⟩
 have h2:=hw.2
 have hrun:(execOp a.eval ⟨some d,.call ⟨.builtin .append,[.tmp i,.tmp j].toArray,[T,T2].toArray⟩,ty,pos,after,none⟩).run P w=((Builtin.append_ [T,T2].toArray ty [a.eval (.tmp i),a.eval (.tmp j)].toArray).run P w).andThen fun v w=> .ok (.value v) w:=by
  simp only [execOp,resolve,List.map_toArray,List.map_cons,List.map_nil,Sem.run_bind,Sem.run_pure,Result.andThen_ok,invoke,builtin]
 rw [zan rfl,hrun] at h2 ⊢
 generalize (Builtin.append_ [T,T2].toArray ty [a.eval (.tmp i),a.eval (.tmp j)].toArray).run P w=r at h2 ⊢
 cases r with
 |ok v w'=>exact h2 v rfl
 |halt q w'=>cases q <;> exact h2
end
theorem zcm {h:List Res} {s:Value} {sz:Nat} {T:TypeId} {rows:List (List AV)} (A B:List AV):zgi (.row s sz T rows::h) (.agg (A++ .v s::B)) h (.agg (A++ .list false sz rows::B)):=by
 refine ⟨fun x hx=>by rw [q7];exact List.mem_append_right _ hx,fun X w v hh hr=>⟨HRel.drop (h:= [_]) hh,?_⟩⟩
 have hf:=zf7 hh
 cases hr with
 |agg _ cs hl hc=>
  refine .agg _ cs (by simpa using hl) fun j h1 h2=> ?_
  have hj:j < (A++ .v s::B).length:=by simpa using h1
  have hcj:=hc j hj h2
  have hkeep:∀av u,Rel w (OO (.row s sz T rows::h) X) av u→Rel w (OO h X) av u:=fun av u r=>r.keep (Nat.le_refl _) fun b hb _=>⟨rfl,fun q=>hb (by
   rcases q with q|q
   ·exact .inl (by rw [q7];exact List.mem_append_right _ q)
   ·exact .inr q)⟩
  by_cases hA:j < A.length
  ·rw [List.getElem_append_left hA] at hcj ⊢;exact hkeep _ _ hcj
  ·rw [List.getElem_append_right (by omega)] at hcj ⊢
   by_cases h0:j - A.length=0
   ·simp only [h0,List.getElem_cons_zero] at hcj ⊢
    rw [hcj.v_eq];exact hf
   ·obtain ⟨k,hk⟩:∃k,j - A.length=k+1:=⟨j - A.length - 1,by omega⟩
    simp only [hk,List.getElem_cons_succ] at hcj ⊢
    exact hkeep _ _ hcj
theorem zai {h:List Res} {s:Value} {sz:Nat} {T:TypeId} {rows:List (List AV)} (A B:List AV):zgi (.row s sz T rows::h) (.tup (A++ .v s::B)) h (.tup (A++ .list false sz rows::B)):=by
 refine ⟨fun x hx=>by rw [q7];exact List.mem_append_right _ hx,fun X w v hh hr=>⟨HRel.drop (h:= [_]) hh,?_⟩⟩
 have hf:=zf7 hh
 cases hr with
 |tup _ cs hl hc=>
  refine .tup _ cs (by simpa using hl) fun j h1 h2=> ?_
  have hj:j < (A++ .v s::B).length:=by simpa using h1
  have hcj:=hc j hj h2
  have hkeep:∀av u,Rel w (OO (.row s sz T rows::h) X) av u→Rel w (OO h X) av u:=fun av u r=>r.keep (Nat.le_refl _) fun b hb _=>⟨rfl,fun q=>hb (by
   rcases q with q|q
   ·exact .inl (by rw [q7];exact List.mem_append_right _ q)
   ·exact .inr q)⟩
  by_cases hA:j < A.length
  ·rw [List.getElem_append_left hA] at hcj ⊢;exact hkeep _ _ hcj
  ·rw [List.getElem_append_right (by omega)] at hcj ⊢
   by_cases h0:j - A.length=0
   ·simp only [h0,List.getElem_cons_zero] at hcj ⊢
    rw [hcj.v_eq];exact hf
   ·obtain ⟨k,hk⟩:∃k,j - A.length=k+1:=⟨j - A.length - 1,by omega⟩
    simp only [hk,List.getElem_cons_succ] at hcj ⊢
    exact hkeep _ _ hcj
theorem y9.ventR {P:Program} {f:FuncId} {args:List AV} {h:List Res} {R R2:AV→List Res→Prop} (hc:y9 P f args h R) (hv:∀r h',R r h'→∃r2 h2,zgi h' r h2 r2∧R2 r2 h2):y9 P f args h R2:=by
 intro X w vs hh ha
 refine (hc X w vs hh ha).mono ?_
 rintro e w' ⟨u,av,h',e1,hR,hrel,hh',hk⟩
 obtain ⟨r2,h2,⟨o,q⟩,hR2⟩:=hv _ _ hR
 obtain ⟨q1,q2⟩:=q X w' u hh' hrel
 exact ⟨u,r2,h2,e1,hR2,q2,q1,⟨hk.size,fun b hb ho=>⟨(hk.same b hb ho).1,fun hm=>(hk.same b hb ho).2 (o b hm)⟩,hk.env⟩⟩
theorem y3.ventR {P:Program} {fv:AV} {args:List AV} {h:List Res} {R R2:AV→List Res→Prop} (hc:y3 P fv args h R) (hv:∀r h',R r h'→∃r2 h2,zgi h' r h2 r2∧R2 r2 h2):y3 P fv args h R2:=by
 intro X w v vs hh hvv ha
 refine (hc X w v vs hh hvv ha).mono ?_
 rintro e w' ⟨u,av,h',e1,hR,hrel,hh',hk⟩
 obtain ⟨r2,h2,⟨o,q⟩,hR2⟩:=hv _ _ hR
 obtain ⟨q1,q2⟩:=q X w' u hh' hrel
 exact ⟨u,r2,h2,e1,hR2,q2,q1,⟨hk.size,fun b hb ho=>⟨(hk.same b hb ho).1,fun hm=>(hk.same b hb ho).2 (o b hm)⟩,hk.env⟩⟩
theorem y3.ventE {P:Program} {fv:AV} {args:List AV} {h:List Res} {R:AV→List Res→Prop} (hc:y3 P fv args h (fun r h'=>∃r2 h2,zgi h' r h2 r2∧R r2 h2)):y3 P fv args h R:=hc.ventR fun _ _ q=>q
inductive Scal:AV→Prop where
 |any:Scal .any
 |v (x:Value):Scal (.v x)
 |tup (vs:List AV):(∀j (h:j < vs.length),Scal vs[j])→Scal (.tup vs)
 |fn (f:Fn):Scal (.fn f [] [])
theorem Scal.rel {a:AV} (s:Scal a):∀{w w':World} {O O':Nat→Prop} {v:Value},Rel w O a v→Rel w' O' a v:=by
 induction s with
 |any=>intro w w' O O' v r;exact .any _
 |v x=>intro w w' O O' v r;rw [r.v_eq];exact .v _
 |tup vs _ ih=>
  intro w w' O O' v r
  cases r with
  |tup _ cs h1 h2=>exact .tup _ _ h1 fun j a b=>ih j a (h2 j a b)
 |fn f=>
  intro w w' O O' v r
  cases r with
  |fn _ _ _ fa ca h1 h2 h3 h4=>exact .fn _ _ _ _ _ h1 h2 (fun j h=>absurd h (Nat.not_lt_zero j)) (fun j h=>absurd h (Nat.not_lt_zero j))
theorem ygt {r:Res} {h:List Res} {X:Nat→Prop} {b:Nat}:OO (r::h) X b ↔ b∈r.own∨OO h X b:=by
 simp only [OO,q7,List.mem_append];exact or_assoc
theorem zgq {nt:Nat} {t:Fr} {h:List Res} {ds:List Nat} {s:Value} {sz:Nat} {T TB:TypeId} {rows:List (List AV)} {b:Nat} (A B:List AV):
 Ent nt ⟨t,.row s sz T rows:: .box b TB (A++ .v s::B)::h,ds⟩ ⟨t,.box b TB (A++ .list false sz rows::B)::h,ds⟩:=by
 refine ⟨fun x hx=> ?_,fun X a w hs=> ?_⟩
 ·simp only [q7,List.mem_append] at hx ⊢
  exact .inr hx
 have hO:∀b',OO (.box b TB (A++ .list false sz rows::B)::h) X b' ↔ OO (.box b TB (A++ .v s::B)::h) X b':=fun b'=>by simp [OO,q7,Res.own]
 have hO':OO (.box b TB (A++ .list false sz rows::B)::h) X=OO (.box b TB (A++ .v s::B)::h) X:=by funext b';exact propext (hO b')
 have hd:=HRel.drop (h:= [_]) hs.heap
 have hf:=zf7 hs.heap
 have hkeep:∀av u,Rel w (OO (.row s sz T rows:: .box b TB (A++ .v s::B)::h) X) av u→Rel w (OO (.box b TB (A++ .v s::B)::h) X) av u:=fun av u r=>r.keep (Nat.le_refl _) fun b hb _=>⟨rfl,fun q=>hb (ygt.2 (.inr q))⟩
 refine ⟨⟨by simpa [q7,Res.own] using hd.nodup,fun b' hb'=>hd.lt b' (by simpa [q7,Res.own] using hb'),hd.xlt,fun r hr=> ?_⟩,hs.size,fun i av e=> ?_,hs.defs⟩
 ·rw [hO']
  rcases List.mem_cons.1 hr with rfl|hr
  ·obtain ⟨c,h1,h2,h3⟩:=hd.holds _ (List.mem_cons_self)
   refine ⟨c,h1,by simpa using h2,fun j j1 j2=> ?_⟩
   have hj:j < (A++ .v s::B).length:=by simpa using j1
   have hcj:=h3 j hj j2
   by_cases hA:j < A.length
   ·rw [List.getElem_append_left hA] at hcj ⊢;exact hcj
   ·rw [List.getElem_append_right (by omega)] at hcj ⊢
    by_cases h0:j - A.length=0
    ·simp only [h0,List.getElem_cons_zero] at hcj ⊢
     rw [hcj.v_eq];exact hf
    ·obtain ⟨k,hk⟩:∃k,j - A.length=k+1:=⟨j - A.length - 1,by omega⟩
     simp only [hk,List.getElem_cons_succ] at hcj ⊢
     exact hcj
  ·exact hd.holds r (List.mem_cons_of_mem _ hr)
 ·obtain ⟨u,e1,r⟩:=hs.fr i av e
  refine ⟨u,e1,?_⟩
  show Rel w (OO (.box b TB (A++ .list false sz rows::B)::h) X) av u
  rw [hO'];exact hkeep _ _ r
theorem zqq {H:List Res} {X:Nat→Prop} {w:World} {s:Value} {sz:Nat} {T:TypeId} {rows rows':List (List AV)} {O':Nat→Prop} (hh:HRel X w H) (hm: .row s sz T rows∈H) (hO:∀b∈(Res.row s sz T rows).own,¬O' b) (hl:rows'.length=rows.length)
 (hl2:∀i (h:i < rows.length) (h':i < rows'.length),rows'[i].length=rows[i].length)
 (hc:∀i (h:i < rows.length) (h':i < rows'.length) j (k:j < rows[i].length) (k':j < rows'[i].length) u,Rel w (OO H X) rows[i][j] u→Rel w O' rows'[i][j] u):Rel w O' (.list false sz rows') s:=by
 have hx:=hh.holds _ hm
 cases s <;> try exact hx.elim
 rename_i a len cap
 cases a with
 |none=>
  obtain ⟨rfl,rfl,rfl⟩:=hx
  obtain rfl:rows'= []:=List.eq_nil_of_length_eq_zero (by simpa using hl)
  exact .lnil _ _ _ _ (by simp)
 |some a=>
  obtain ⟨h1,h2,h3,h4,c,h5,h6,h7⟩:=hx
  obtain ⟨b,off,spot⟩:=a
  simp only at h1;subst h1;subst h2
  have hb:=hh.lt b (j5.2 ⟨_,hm,by simp [Res.own]⟩)
  rw [←hl]
  refine .list _ _ _ b off cap (fun i j=>c[off+i * sz+j]?.getD undef) (by simp) (by omega) (hO b (by simp [Res.own])) hb.1 (fun i hi=>by rw [hl2 i (by omega) hi];exact h4 i (by omega)) (fun i hi j hj=> ?_) fun i hi j hj=> ?_
  ·obtain ⟨v,e,_⟩:=h7 i (by omega) j (by rw [←hl2 i (by omega) hi];exact hj)
   simp only at e h5
   simp [World.cell?,h5,e]
  ·obtain ⟨v,e,r⟩:=h7 i (by omega) j (by rw [←hl2 i (by omega) hi];exact hj)
   simp only at e
   rw [e];exact hc i (by omega) hi j (by rw [←hl2 i (by omega) hi];exact hj) hj v r
section
variable {P:Program} {h:List Res} {f:Operand→Option AV} {dst:Option Tmp} {ty:TypeId} {pos:String} {after:Array Edge} {guard:Option (Nat×Bool)} {x y:Operand}
theorem zh0 {tys:Array TypeId} {k k':IntKind} (a b:Nat) (hx:f x=some (.v (.int k a))) (hy:f y=some (.v (.int k' b))):
 QR P h f ⟨dst,.call ⟨.builtin .min,[x,y].toArray,tys⟩,ty,pos,after,guard⟩ (.v (.int k ((min a b:Nat):Int))):=by
 have:=zv9 (P:=P) (h:=h) (tys:=tys) (dst:=dst) (ty:=ty) (pos:=pos) (after:=after) (guard:=guard) hx hy
 rw [show ((min a b:Nat):Int)=min (a:Int) (b:Int) from by omega];exact this
theorem zdy {T E:TypeId} {full:Bool} {sz k:Nat} {rows rows':List (List AV)} (hx:f x=some (.list full sz rows)) (hy:f y=some (.v (.int .i64 k))) (hk:k≤rows.length) (he:rows.take k=rows')
 [Und P T (.slice E)] [Siz P E sz]:QR P h f ⟨dst,.slice T x none (some y) none,ty,pos,after,guard⟩ (.list false sz rows'):=by
 subst he;exact zdt hx hy hk
end
section
variable {P:Program} {h:List Res} {f:Operand→Option AV} {dst:Option Tmp} {ty T T':TypeId} {pos:String} {after:Array Edge} {g:Option (Nat×Bool)} {x y z:Operand} {av:AV}
theorem yj2 (q:QR P h f ⟨dst,.move x,ty,pos,after,g⟩ av):QR P h f ⟨dst,.move x,ty,pos,after,g⟩ av:=q
theorem ya8 (q:QR P h f ⟨dst,.assign x,ty,pos,after,g⟩ av):QR P h f ⟨dst,.assign x,ty,pos,after,g⟩ av:=q
theorem yj1 (q:QR P h f ⟨dst,.pick x y z,ty,pos,after,g⟩ av):QR P h f ⟨dst,.pick x y z,ty,pos,after,g⟩ av:=q
theorem ymy {op:BinOp} (q:QR P h f ⟨dst,.binOp op T x y T',ty,pos,after,g⟩ av):QR P h f ⟨dst,.binOp op T x y T',ty,pos,after,g⟩ av:=q
theorem yoj {op:UnOp} (q:QR P h f ⟨dst,.unOp op T x,ty,pos,after,g⟩ av):QR P h f ⟨dst,.unOp op T x,ty,pos,after,g⟩ av:=q
theorem zrk {k:Nat} (q:QR P h f ⟨dst,.fieldAddr T x k,ty,pos,after,g⟩ av):QR P h f ⟨dst,.fieldAddr T x k,ty,pos,after,g⟩ av:=q
theorem yfv {k:Nat} (q:QR P h f ⟨dst,.field T x k,ty,pos,after,g⟩ av):QR P h f ⟨dst,.field T x k,ty,pos,after,g⟩ av:=q
theorem yj3 (q:QR P h f ⟨dst,.load T x,ty,pos,after,g⟩ av):QR P h f ⟨dst,.load T x,ty,pos,after,g⟩ av:=q
theorem zur (q:QR P h f ⟨dst,.nilCheck x,ty,pos,after,g⟩ av):QR P h f ⟨dst,.nilCheck x,ty,pos,after,g⟩ av:=q
theorem zrj (q:QR P h f ⟨dst,.indexAddr T x y,ty,pos,after,g⟩ av):QR P h f ⟨dst,.indexAddr T x y,ty,pos,after,g⟩ av:=q
theorem yfu (q:QR P h f ⟨dst,.index T x y,ty,pos,after,g⟩ av):QR P h f ⟨dst,.index T x y,ty,pos,after,g⟩ av:=q
theorem ymx {b:Builtin} {aS:Array Operand} {ts:Array TypeId} (q:QR P h f ⟨dst,.call ⟨.builtin b,aS,ts⟩,ty,pos,after,g⟩ av):QR P h f ⟨dst,.call ⟨.builtin b,aS,ts⟩,ty,pos,after,g⟩ av:=q
theorem yfs {a b c:Option Operand} (q:QR P h f ⟨dst,.slice T x a b c,ty,pos,after,g⟩ av):QR P h f ⟨dst,.slice T x a b c,ty,pos,after,g⟩ av:=q
theorem zxj {k:Nat} (q:QR P h f ⟨dst,.extract x k,ty,pos,after,g⟩ av):QR P h f ⟨dst,.extract x k,ty,pos,after,g⟩ av:=q
def ykl (op:BinOp) (k:IntKind):Bool:=match op,k with
 | .add,.i64=>false
 | .sub,.i64=>false
 | .mul,.i64=>false
 |_,_=>true
theorem zz4 {op:BinOp} {k:IntKind} {a b c:Int} (hx:f x=some (.v (.int k a))) (hy:f y=some (.v (.int k b))) (hk:ykl op k=true) (hc:ybm op k a b=some c):
 QR P h f ⟨dst,.binOp op T x y T',ty,pos,after,g⟩ (.v (.int k c)):=yer hx hy hc
end
theorem qrA {P:Program} {h:List Res} {f:Operand→Option AV} {o:Oper} {av:AV} (hq:QR P h f o av:=by
 first
 |(apply yj2;exact yeo rfl)
 |(apply ymy;first
  |exact zio rfl rfl rfl
  |exact k7 rfl rfl rfl (by omega)
  |exact ze1 rfl rfl rfl (by decide)
  |exact zz4 rfl rfl rfl rfl
  |exact zz1 rfl rfl
  |exact zz0 rfl rfl
  |exact zwb rfl rfl rfl
  |exact zon rfl rfl
  |exact zz2 rfl rfl rfl rfl
  |exact zsr rfl rfl rfl rfl)
 |(apply yj3;first
  |exact j3 rfl rfl
  |exact zlj rfl rfl
  |exact zch rfl (by assumption) rfl
  |exact zqy rfl rfl
  |exact zlk rfl rfl
  |exact zgx rfl (Nat.le_of_ble_eq_true rfl)
  |exact zgk rfl (Nat.le_of_ble_eq_true rfl)
  |exact u4 rfl (by assumption) rfl)
 |(apply zrk;first
  |exact zot rfl (Nat.succ_ne_zero _)
  |exact zkd rfl (Nat.succ_ne_zero _)
  |exact zkc rfl (Nat.succ_ne_zero _)
  |exact zi0 rfl (Nat.succ_ne_zero _))
 |(apply yj1;first
  |exact zv6 rfl rfl
  |exact zv7 rfl rfl
  |exact zv8 rfl rfl rfl)
 |(apply ya8;exact zwc rfl)
 |(apply zrj;first
  |exact zcy rfl rfl (by assumption)
  |exact w9 rfl rfl (by assumption)
  |exact u9 rfl rfl (by omega))
 |(apply ymx;first
  |exact zqz rfl
  |exact zl8 rfl
  |exact zm0 rfl
  |exact zv9 rfl rfl
  |exact yeq rfl rfl
  |exact yep rfl rfl rfl)
 |(apply yfv;first
  |exact zor rfl rfl
  |exact zos rfl (Nat.le_of_ble_eq_true rfl))
 |(apply zur;first
  |exact zqv rfl
  |exact zlh rfl
  |exact zlg rfl)
 |(apply yoj;exact yij rfl)
 |(apply zxj;exact zua rfl rfl)
 |(apply yfs;first
  |exact zer rfl rfl (by omega)
  |exact zeq rfl rfl (by omega)
  |exact zqu rfl rfl rfl (by omega)
  |exact zqt rfl rfl rfl (by omega) (by omega)
  |exact zdt rfl rfl (by omega)
  |exact zt8 rfl rfl (by omega))
 |(apply yfu;exact zcn rfl rfl (by omega) (by assumption))
 |exact zb6 rfl rfl
 |exact zqw rfl rfl
 |exact zab rfl (by rfl)
 |exact zgy rfl (by rfl)
 |exact zz3 rfl (by assumption)):QR P h f o av:=hq
section
variable {P:Program} {ro:Option Nat} {nt:Nat} {Q:Exit→St→Prop} {s:St} {c:Operand} {x y:Code}
theorem zry (hc:ev s.t c=some (.v (.bool true))) (h:aw P ro nt x Q s):aw P ro nt (.cond c x y) Q s:=z8 hc (fun _=>h) (fun h=>by cases h)
theorem zp3 (hc:ev s.t c=some (.v (.bool false))) (h:aw P ro nt y Q s):aw P ro nt (.cond c x y) Q s:=z8 hc (fun h=>by cases h) (fun _=>h)
variable {ops:Array Oper} {l:List Oper} {dst:Option Tmp} {T ty:TypeId} {a b:Operand} {pos:String} {after:Array Edge} {g:Option (Nat×Bool)}
theorem zyo (q:zca P ro nt ops (⟨dst,.store T a b,ty,pos,after,g⟩::l) Q s):zca P ro nt ops (⟨dst,.store T a b,ty,pos,after,g⟩::l) Q s:=q
theorem yk5 (q:zca P ro nt ops l Q s):zca P ro nt ops l Q s:=q
theorem yoo (q:aw P ro nt x Q s):aw P ro nt x Q s:=q
theorem yk3 {e:Exit} {n:St→Prop} (q:thn n Q e s):thn n Q e s:=q
theorem yk4 {e:Exit} {n:Nat} (q:ze6 n Q e s):ze6 n Q e s:=q
theorem yng {h:List Res} {S:SB} {sd:List Tmp} {t0:Fr} {os:List Oper} {e:Fr} {σ:List SI} {K:Fr→List SI→Prop} (q:zcu P ro nt h S l sd t0 os e σ K):zcu P ro nt h S l sd t0 os e σ K:=q
theorem ynh {h:List Res} {dsl:List Nat} {sd:List Tmp} {t0:Fr} {os:List Oper} {e:Fr} {K:Fr→List (Option CM)→Prop} (q:zbh P ro nt h dsl l sd t0 os e K):zbh P ro nt h dsl l sd t0 os e K:=q
theorem ygr {ms:List (Option CM)} {e:Fr} {h:List Res} {K:Fr→List Res→Prop} (q:zam l ms e h K):zam l ms e h K:=q
theorem ygs {e:Fr} {h:List Res} {K:Fr→List Res→Prop} (q:za3 P nt l e h K):za3 P nt l e h K:=q
theorem q1 {d:Tmp} {op:Op} {t:Fr} {h:List Res} {ds:List Nat} {av:AV} (hk:zca P ro nt ops l Q ⟨(d,av)::t,h,ds⟩) (hg:gd ops t ⟨some d,op,ty,pos,after,g⟩=some true:=by rfl) (hd:Nat.blt d nt=true:=by rfl) (hq:QR P h (ev t) ⟨some d,op,ty,pos,after,g⟩ av:=by exact qrA)
 (hn:zao ⟨some d,op,ty,pos,after,g⟩=true:=by rfl):zca P ro nt ops (⟨some d,op,ty,pos,after,g⟩::l) Q ⟨t,h,ds⟩:=zyg hg hd (ze0 hq hn) hk
end
structure Hide (B:Prop):Prop where
 out:B
theorem rn {A B:Prop} (b:B) (hab:Hide B→A:=by
 intro hB
 repeat (first
  |(refine yk5 ?_;first
   |refine u3 ?_
   |refine qq rfl rfl qrA ?_
   |refine qs rfl rfl ?_
   |refine qs0 rfl ?_
   |(refine zyo ?_;first
    |refine z7 rfl (za2 rfl rfl rfl ?_)
    |refine z7 rfl (zby rfl rfl rfl rfl (Nat.le_of_ble_eq_true rfl) ?_)))
  |(refine yk3 ?_;first
   |refine k6 ?_
   |refine zgv ?_
   |refine yhe ?_)
  |(refine yoo ?_;first
   |refine w6 ?_
   |refine y6 ?_
   |refine zad ?_
   |refine zae ?_
   |refine zg4 ?_
   |refine yko ?_
   |refine ztn ?_)
  |(refine yk4 ?_;first
   |refine zks ?_
   |refine zxb ?_
   |refine zdk ?_
   |refine zia rfl ?_)
  |(refine yng ?_;first
   |refine ym7 ⟨rfl,?_⟩
   |refine dq rfl rfl qrA ?_
   |refine ds rfl rfl ?_
   |refine da ?_)
  |(refine ygs ?_;first
   |refine zie ?_
   |refine znu rfl ?_)
  |(refine ynh ?_;first
   |refine mq rfl rfl qrA ?_
   |refine ms rfl rfl ?_)
  |(refine ygr ?_;first
   |refine ye0 ?_
   |refine zq9 ?_))
 exact hB.out):A:=hab ⟨b⟩
theorem rn0 {A B:Prop} (b:B) (hab:Hide B→A:=by
 intro hB
 repeat (first
  |(refine yk5 ?_;first
   |refine u3 ?_
   |refine qq rfl rfl qrA ?_
   |refine qs rfl rfl ?_
   |refine qs0 rfl ?_
   |(refine zyo ?_;first
    |refine z7 rfl (za2 rfl rfl rfl ?_)
    |refine z7 rfl (zby rfl rfl rfl rfl (Nat.le_of_ble_eq_true rfl) ?_)))
  |(refine yk3 ?_;first
   |refine k6 ?_
   |refine zgv ?_
   |refine yhe ?_)
  |(refine yk4 ?_;first
   |refine zks ?_
   |refine zxb ?_
   |refine zdk ?_
   |refine zia rfl ?_)
  |(refine yng ?_;first
   |refine ym7 ⟨rfl,?_⟩
   |refine dq rfl rfl qrA ?_
   |refine ds rfl rfl ?_
   |refine da ?_)
  |(refine ygs ?_;first
   |refine zie ?_
   |refine znu rfl ?_)
  |(refine ynh ?_;first
   |refine mq rfl rfl qrA ?_
   |refine ms rfl rfl ?_)
  |(refine ygr ?_;first
   |refine ye0 ?_
   |refine zq9 ?_))
 exact hB.out):A:=hab ⟨b⟩
theorem rn2 {A B:Prop} (b:B) (hab:Hide B→A:=by
 intro hB
 repeat (first
  |(refine yng ?_;first
   |refine ym7 ⟨rfl,?_⟩
   |refine dq rfl rfl qrA ?_
   |refine ds rfl rfl ?_
   |refine da ?_)
  |(refine ygs ?_;first
   |refine zie ?_
   |refine znu rfl ?_)
  |(refine ynh ?_;first
   |refine mq rfl rfl qrA ?_
   |refine ms rfl rfl ?_)
  |(refine ygr ?_;first
   |refine ye0 ?_
   |refine zq9 ?_))
 exact hB.out):A:=hab ⟨b⟩
section
variable {P:Program} {ro:Option Nat} {nt:Nat} {Q:Exit→St→Prop} {t t':Fr} {h h':List Res} {ds:List Nat} {c:Code}
theorem es (hs:SubF t t':=by repeat (first|exact .nil|refine .cons _ _ _ rfl ?_)):Ent nt ⟨t,h,ds⟩ ⟨t',h,ds⟩:=x7 hs
theorem ed (n:Nat) (hd:h.drop n=h':=by rfl) (hs:SubF t t':=by repeat (first|exact .nil|refine .cons _ _ _ rfl ?_)):Ent nt ⟨t,h,ds⟩ ⟨t',h',ds⟩:=by
 subst hd
 refine w7 ?_ (x7 hs)
 have:=zas (nt:=nt) (t:=t) (h1:=h.take n) (h2:=h.drop n) (ds:=ds)
 rwa [List.take_append_drop] at this
theorem eD (i:Nat) {x:Res} (hx:h[i]? =some x:=by rfl) (hd:h.eraseIdx i=h':=by rfl) (hs:SubF t t':=by repeat (first|exact .nil|refine .cons _ _ _ rfl ?_)):Ent nt ⟨t,h,ds⟩ ⟨t',h',ds⟩:=by
 subst hd
 exact w7 (w7 (k8 (zjm hx)) zxs) (x7 hs)
theorem zjw {ops:Array Oper} {l:List Oper} {s s':St} (he:Ent nt s s') (hk:zca P ro nt ops l Q s'):zca P ro nt ops l Q s:=fun X a w hs=>
 zaj (s:=s) (s':=s') ⟨Nat.le_refl _,fun b hb ho=>⟨rfl,fun q=>ho (he.1 b q)⟩,zg7.eq rfl rfl rfl (by first|exact Nat.le_refl _|exact Nat.le_succ _)⟩ (hk X a w (he.2 X a w hs))
inductive SubB (t:Fr):Fr→Prop where
 |nil:SubB t []
 |cons (i:Nat) (a b:AV) (r:Fr):lk t i=some b→Sb b a→SubB t r→SubB t ((i,a)::r)
theorem ylm (n:Nat) (a:AV):zgi h a (h.drop n) a:=by
 have:=zgi.drop (h.take n) (h.drop n) a
 rwa [List.take_append_drop] at this
theorem rq (n:Nat) {rs:List ResultVar} {R:AV→List Res→Prop} {av:List AV} (hR:R (zd9 av) (h.drop n)) (hr:RVs P t h rs av:=by first|exact .cons _ _ _ _ (.tmp _ _ rfl) .nil|exact .cons _ _ _ _ (.tmp _ _ rfl) (.cons _ _ _ _ (.tmp _ _ rfl) .nil)|exact .cons _ _ _ _ (.tmp _ _ rfl) (.cons _ _ _ _ (.tmp _ _ rfl) (.cons _ _ _ _ (.tmp _ _ rfl) .nil))|exact .cons _ _ _ _ (.tmp _ _ rfl) (.cons _ _ _ _ (.tmp _ _ rfl) (.cons _ _ _ _ (.tmp _ _ rfl) (.cons _ _ _ _ (.tmp _ _ rfl) .nil)))):zyx P rs R .ret ⟨t,h,[]⟩:=
 zd7 hr (ylm n _) hR
theorem rqz {rs:List ResultVar} {R:AV→List Res→Prop} (hR:R (zd9 []) h) (hr:RVs P t h rs []:=by exact .nil):zyx P rs R .ret ⟨t,h,[]⟩:=zd7 hr (.refl _ _) hR
theorem yd6 {rs:List ResultVar} {R:AV→List Res→Prop} (hR:R (zd9 []) h) (hr:RVs P t h rs []:=by exact .nil):zyx P rs R .normal ⟨t,h,[]⟩:=zdw hr (.refl _ _) hR
theorem fin {p:Prop} (hp:p:=by first|(simp only [*,Bool.true_and,Bool.false_and,Bool.and_false,Bool.and_true,Bool.true_or,Bool.or_false,Bool.false_or,Bool.or_true,if_true,if_false,Bool.false_eq_true,Bool.not_true,Bool.not_false];done)|(simp_all;done)|(simp_all <;> omega)):p:=hp
theorem eA (hs:Ent nt ⟨t,h,ds⟩ ⟨t',h',ds⟩:=by first|exact ed 0|exact ed 1|exact ed 2|exact ed 3|exact ed 4|exact ed 5|exact ed 6):Ent nt ⟨t,h,ds⟩ ⟨t',h',ds⟩:=hs
theorem ycw (n:Nat) (p:Nat→Prop) (v:Nat→Fr) (cs:Fr) (hp:p 0)
 (round:∀k,k≤n→p k→aw P ro nt c (thn (fun s'=>k < n∧p (k+1)∧Ent nt s' ⟨v (k+1)++cs,h,ds⟩) Q) ⟨v k++cs,h,ds⟩)
 (hs:SubF t (v 0++cs):=by repeat (first|exact .nil|refine .cons _ _ _ rfl ?_)):aw P ro nt (.loop c) Q ⟨t,h,ds⟩:=
 u5 (fun k=>k≤n∧p k) (fun k=>⟨v k++cs,h,ds⟩) (fun k=>n - k) 0 ⟨Nat.zero_le _,hp⟩ (x7 hs) fun k hk=>zg3 (fun e s' hq=>by
  cases e with
  |normal=>exact ⟨k+1,⟨hq.1,hq.2.1⟩,hq.2.2,by have:=hq.1;omega⟩
  |_=>exact hq) (round k hk.1 hk.2)
theorem zbc (n:Nat) (p:Nat→Prop) (inv:Nat→St) (hp:p 0) (h0:Ent nt ⟨t,h,ds⟩ (inv 0))
 (round:∀k,k≤n→p k→aw P ro nt c (thn (fun s'=>k < n∧p (k+1)∧Ent nt s' (inv (k+1))) Q) (inv k)):aw P ro nt (.loop c) Q ⟨t,h,ds⟩:=
 u5 (fun k=>k≤n∧p k) inv (fun k=>n - k) 0 ⟨Nat.zero_le _,hp⟩ h0 fun k hk=>zg3 (fun e s' hq=>by
  cases e with
  |normal=>exact ⟨k+1,⟨hq.1,hq.2.1⟩,hq.2.2,by have:=hq.1;omega⟩
  |_=>exact hq) (round k hk.1 hk.2)
theorem zrx (n:Nat) (inv:Nat→SV→St) (a:SV) (h0:Ent nt ⟨t,h,ds⟩ (inv 0 a))
 (round:∀k a,k≤n→aw P ro nt c (thn (fun s'=>k < n∧∃a,Ent nt s' (inv (k+1) a)) Q) (inv k a)):aw P ro nt (.loop c) Q ⟨t,h,ds⟩:=
 u5 (fun x:Nat×SV=>x.1≤n) (fun x=>inv x.1 x.2) (fun x=>n - x.1) (0,a) (Nat.zero_le _) h0 fun x hx=>zg3 (fun e s' hq=>by
  cases e with
  |normal=>
   obtain ⟨h1,a',h2⟩:=hq
   exact ⟨(x.1+1,a'),h1,h2,by simp only;omega⟩
  |_=>exact hq) (round x.1 x.2 hx)
theorem zdc {σ:Type} (p:σ→Prop) (inv:σ→St) (μ:σ→Nat) (x0:σ) (hp:p x0) (h0:Ent nt ⟨t,h,ds⟩ (inv x0))
 (round:∀x,p x→aw P ro nt c (thn (fun s'=>∃x',p x'∧Ent nt s' (inv x')∧μ x' < μ x) Q) (inv x)):aw P ro nt (.loop c) Q ⟨t,h,ds⟩:=
 u5 p inv μ x0 hp h0 round
end
theorem zky {P:Program} {fv:AV} {args:List AV} {s:Value} {i sz:Nat} {T:TypeId} {rows rows':List (List AV)} {h:List Res} {h':Res→List Res} [hr:HasRow h s i sz T rows] [hset:∀y,SetAt h i y (h' y)]
 (hc:y3 P fv args [.row s sz T rows] (fun r h2=>∃s':SV,h2= [.row s'.v sz T rows']∧r= .v s'.v)):y3 P fv args h (fun r h2=>∃s':SV,h2=h' (.row s'.v sz T rows')∧r= .v s'.v):=by
 have hi:i < h.length:=(List.getElem?_eq_some_iff.1 hr.h).1
 have hp:=zjm hr.h
 refine (y3.perm hp (y3.permR ((y3.frame (h.eraseIdx i) hc).mono ?_)))
 rintro av h2 ⟨h1',rfl,s',rfl,rfl⟩
 refine ⟨h' (.row s'.v sz T rows'),?_,s',rfl,rfl⟩
 rw [←(hset (.row s'.v sz T rows')).h]
 exact (zja hi).symm
theorem zgc {P:Program} {fv r0:AV} {args:List AV} {s:Value} {i sz:Nat} {T:TypeId} {rows rows':List (List AV)} {h:List Res} {h':Res→List Res} [hr:HasRow h s i sz T rows] [hset:∀y,SetAt h i y (h' y)]
 (hc:y3 P fv args [.row s sz T rows] (fun r h2=>h2= [.row s sz T rows']∧r=r0)):y3 P fv args h (fun r h2=>h2=h' (.row s sz T rows')∧r=r0):=by
 have hi:i < h.length:=(List.getElem?_eq_some_iff.1 hr.h).1
 have hp:=zjm hr.h
 refine (y3.perm hp (y3.permR ((y3.frame (h.eraseIdx i) hc).mono ?_)))
 rintro av h2 ⟨h1',rfl,rfl,rfl⟩
 refine ⟨h' (.row s sz T rows'),?_,rfl,rfl⟩
 rw [←(hset (.row s sz T rows')).h]
 exact (zja hi).symm
section
variable {P:Program} {h:List Res} {f:Operand→Option AV} {dst:Option Tmp} {ty:TypeId} {pos:String} {after:Array Edge} {g:Option (Nat×Bool)} {x y:Operand}
end
theorem zdp {A:Type} {f:A→List AV} {l:List A} {k:Nat} (hk:k < l.length):(l.map f)[k]? =some (f l[k]):=by simp [hk]
theorem zd0 {A B:Type} {f:A→B} {l:List A} {k:Nat} (h:decide ((k:Int) < ((l.map f).length:Nat))=true):k < l.length:=by simpa using h
theorem zd1 {A B:Type} {f:A→B} {l:List A} {k:Nat} (h:decide ((k:Int) < ((l.map f).length:Nat))=false) (hk:k≤l.length):k=l.length:=by
 have:l.length≤k:=by simpa using h
 omega
section
variable {A:Type} {f:A→A} {R:A→List AV} {l:List A} {k:Nat}
end
def zu5 (s:Value) (sz:Nat):Value:=match s with
 | .slice a n _=>sliced a 0 n n sz
 |v=>v
theorem zxv (a:Addr) (n sz:Nat):(if n=0 then some a else (some a).map (fun x:Addr=>x.add (0 * sz)))=some a:=by
 split
 ·rfl
 ·simp [Addr.add]
theorem zpo (a:Addr) (n c sz:Nat):zu5 (.slice (some a) n c) sz= .slice (some a) n n:=by
 unfold zu5
 simp only [sliced]
 rw [zxv,Nat.sub_zero]
theorem zpp (n c sz:Nat):zu5 (.slice none n c) sz= .slice none n n:=by
 unfold zu5
 simp [sliced]
theorem zxu (s:Value) (sz:Nat) (T:TypeId) (rows:List (List AV)):(Res.row (zu5 s sz) sz T rows).own=(Res.row s sz T rows).own:=by
 cases s with
 |slice a n c=>
  cases a with
  |none=>rw [zpp];rfl
  |some a=>rw [zpo];rfl
 |_=>rfl
theorem cut_holds {w:World} {O:Nat→Prop} {s:Value} {sz:Nat} {T:TypeId} {rows:List (List AV)} (h:(Res.row s sz T rows).holds w O):(Res.row (zu5 s sz) sz T rows).holds w O:=by
 cases s with
 |slice a n c=>
  cases a with
  |none=>
   obtain ⟨h1,h2,h3⟩:=h
   rw [zpp];exact ⟨h1,h2,h2⟩
  |some a=>
   obtain ⟨h1,h2,h3,h4,cc,h5,h6,h7⟩:=h
   rw [zpo]
   exact ⟨h1,h2,Nat.le_refl _,h4,cc,h5,Nat.le_trans (Nat.add_le_add_left (Nat.mul_le_mul_right _ h3) _) h6,h7⟩
 |_=>exact h
theorem HRel.cut {X:Nat→Prop} {w:World} {h:List Res} {i:Nat} {s:Value} {sz:Nat} {T:TypeId} {rows:List (List AV)} (hh:HRel X w h) (hi:h[i]? =some (.row s sz T rows)):HRel X w (h.set i (.row (zu5 s sz) sz T rows)):=by
 have ho:u2 (h.set i (.row (zu5 s sz) sz T rows))=u2 h:=by
  unfold u2
  rw [List.flatMap_def,List.flatMap_def,List.map_set,zxu]
  congr 1
  obtain ⟨hl,e⟩:=List.getElem?_eq_some_iff.1 hi
  refine List.ext_getElem (by simp) fun j h1 h2=> ?_
  rw [List.getElem_set]
  split
  ·rename_i e2;subst e2;rw [List.getElem_map,e]
  ·rfl
 have hO:OO (h.set i (.row (zu5 s sz) sz T rows)) X=OO h X:=by unfold OO;rw [ho]
 refine ⟨by rw [ho];exact hh.nodup,by rw [ho];exact hh.lt,hh.xlt,fun r hr=> ?_⟩
 rw [hO]
 rcases List.mem_or_eq_of_mem_set hr with h1|h1
 ·exact hh.holds r h1
 ·rw [h1];exact cut_holds (hh.holds _ (List.mem_of_getElem? hi))
section
variable {P:Program} {ro:Option Nat} {nt:Nat} {h:List Res} {f:Operand→Option AV} {dst:Option Tmp} {ty:TypeId} {pos:String} {after:Array Edge} {guard:Option (Nat×Bool)} {x y z:Operand}
theorem zub {T E:TypeId} {s:Value} {sz i:Nat} {E':TypeId} {rows:List (List AV)} (hx:f x=some (.v s)) [hr:HasRow h s i sz E' rows] (hy:f y=some (.v (.int .i64 rows.length))) (hz:f z=some (.v (.int .i64 rows.length)))
 [Und P T (.slice E)] [Siz P E sz]:QR P h f ⟨dst,.slice T x none (some y) (some z),ty,pos,after,guard⟩ (.v (zu5 s sz)):=fun X ρ w he=>by
 obtain ⟨a,cap,es,hcap,_⟩:=zhf he.heap hr.h
 obtain ⟨e1,e2⟩:=zha (P:=P) (T:=T) (E:=E)
 have hv:=(he.rel x _ hx).v_eq
 refine ⟨zu5 s sz,run_v _ ?_,.v _⟩
 simp only [Option.map_none,Option.map_some]
 rw [run_sliceAt_slice w T _ _ _ _ e2,hv,(he.rel y _ hy).v_eq,(he.rel z _ hz).v_eq,es,run_slice_hm w T a _ cap e2 .i64 .i64 rows.length rows.length (by omega) (by omega) (by omega),e1]
 simp only [run_sizeOf (n:=sz),Result.andThen_ok,Int.toNat_natCast]
 rfl
theorem ybu {ops:Array Oper} {l:List Oper} {Q:Exit→St→Prop} {t:Fr} {h h':List Res} {ds:List Nat} (s:Value) {i sz:Nat} {T:TypeId} {rows:List (List AV)} [hr:HasRow h s i sz T rows] [hset:SetAt h i (.row (zu5 s sz) sz T rows) h']
 (k:zca P ro nt ops l Q ⟨t,h',ds⟩):zca P ro nt ops l Q ⟨t,h,ds⟩:=by
 refine zjw (s':=⟨t,h',ds⟩) ?_ k
 have ho:u2 h'=u2 h:=by
  rw [←hset.h]
  unfold u2
  rw [List.flatMap_def,List.flatMap_def,List.map_set,zxu]
  congr 1
  obtain ⟨hl,e⟩:=List.getElem?_eq_some_iff.1 hr.h
  refine List.ext_getElem (by simp) fun j h1 h2=> ?_
  rw [List.getElem_set]
  split
  ·rename_i e2;subst e2;rw [List.getElem_map,e]
  ·rfl
 refine ⟨fun b hb=>by rw [←ho];exact hb,fun X a w hs=>⟨by rw [←hset.h];exact hs.heap.cut hr.h,hs.size,?_,hs.defs⟩⟩
 have:OO h' X=OO h X:=by unfold OO;rw [ho]
 show zen w (OO h' X) t a.tmps
 rw [this];exact hs.fr
end
theorem zpg {P:Program} {l:Nat} {pend:Option Code} {fn:FuncId} {nt:Nat} {t:Fr} {ps:List Tmp} {asn body:Code} {dd:Nat} {args:List AV} {h:List Res} {R:AV→List Res→Prop} (hps:Nat.beq ps.length args.length=true) (hpn:(ps.all fun p=>Nat.blt p nt)=true)
 (hb:aw P (some l) nt asn (thn (fun s=>∃t' h2,Ent nt s ⟨t',.loop l .ready pend fn nt t ps.toArray asn body dd::h2,[]⟩∧aw P (some l) nt body (yc3 l pend fn nt t ps.toArray asn body dd R) ⟨t',.loop l .busy pend fn nt t ps.toArray asn body dd::h2,[]⟩) (fun _ _=>False))
  ⟨zmq ps args t,.loop l .ready pend fn nt t ps.toArray asn body dd::h,[]⟩):y3 P (yv l) args (.loop l .ready pend fn nt t ps.toArray asn body dd::h) R:=by
 intro X w v vs hh hv ha
 rw [hv.v_eq]
 obtain ⟨tmps,hl,hsz,hfr⟩:=zfs hh
 have hlen:ps.length=vs.length:=by rw [Nat.eq_of_beq_eq_true hps];exact ha.length
 have hrun:(zk7 (.func (.yield l) #[] #[]) vs.toArray).run P w= .ok (.round l fn ((ps.zip vs).foldl (fun tmps (x:Tmp×Value)=>tmps.setIfInBounds x.1 x.2) tmps) asn body) w:=by
  simp only [zk7,Deferred.ofValue,Sem.run_bind,Sem.run_pure,Result.andThen_ok,invoke,Instr.yield,zcp hl]
  simp only [Array.append_eq_append,Array.empty_append,List.size_toArray]
  rw [if_neg (by omega)]
  simp only [Sem.run_pure]
  congr 2
  rw [←Array.foldl_toList]
  simp
 rw [hrun]
 have hpn':∀p∈ps,p < tmps.size:=fun p hp=>by have:=List.all_eq_true.1 hpn p hp;rw [hsz];exact Nat.le_of_ble_eq_true this
 obtain ⟨z1,z2⟩:=zqb hpn' ha hfr
 refine roundIn_of_wpIn (F:=FW none) trivial ?_
 refine wpIn_mono (hb X {tmps:=(ps.zip vs).foldl (fun tmps (x:Tmp×Value)=>tmps.setIfInBounds x.1 x.2) tmps,defers:= []} w ⟨hh,by rw [z2,hsz],z1,rfl⟩) ?_
 rintro e a1 w1 ⟨s1,q1,r1,k1⟩
 cases e with
 |normal=>
  obtain ⟨t',h2,hent,hbody⟩:=q1
  have r1':=hent.2 X a1 w1 r1
  have k1':Keep (u2 (.loop l .ready pend fn nt t ps.toArray asn body dd::h)) w (u2 (.loop l .ready pend fn nt t ps.toArray asn body dd::h2)) w1:=⟨k1.size,fun b hb ho=>⟨(k1.same b hb ho).1,fun hm=>(k1.same b hb ho).2 (hent.1 b hm)⟩,k1.env⟩
  obtain ⟨tmps1,hl1,hsz1,hfr1⟩:=zfs r1'.heap
  obtain ⟨w2,g1,g2,g3,g4,g5⟩:=zjh (P:=P) (st':= .busy) (pend':=pend) r1'.heap hl1
  refine ⟨w2,?_,?_⟩
  ·simp only [Instr.beginRound,Sem.run_bind,zcp hl1,Result.andThen_ok,g1,Sem.run_pure]
  ·have hsim:Sim X nt ⟨t',.loop l .busy pend fn nt t ps.toArray asn body dd::h2,[]⟩ a1 w2:=⟨g2,r1'.size,r1'.fr.keep g3.size g4,r1'.defs⟩
   refine wpIn_mono (hbody X a1 w2 hsim) ?_
   rintro e2 a3 w3 ⟨s3,⟨h1,hp,hR⟩,r3,k3⟩
   have hh3:=r3.heap.perm hp
   obtain ⟨tmps3,hl3,hsz3,hfr3⟩:=zfs hh3
   have fin:∀(jump:Option Code),(∀b:Bool,b=jump.isNone→R (.v (.bool b)) (.loop l (if jump.isNone then .ready else .done) jump fn nt t ps.toArray asn body dd::h1))→
    ∃v w',(Instr.endRound l jump).run P w3= .ok v w'∧zlc X w (.loop l .ready pend fn nt t ps.toArray asn body dd::h) R (.returned v) w':=by
    intro jump hRj
    obtain ⟨w4,f1,f2,f3,f4,f5⟩:=zjh (P:=P) (st':=if jump.isNone then .ready else .done) (pend':=jump) hh3 hl3
    refine ⟨.bool jump.isNone,w4,?_,.bool jump.isNone,.v (.bool jump.isNone),_,rfl,hRj _ rfl,.v _,f2,?_⟩
    ·simp only [Instr.endRound,Sem.run_bind,zcp hl3,Result.andThen_ok,f1,Sem.run_pure]
    ·exact (k1'.trans g3).trans ((k3.perm_right hp).trans f3)
   cases e2 with
   |normal=>exact fin none fun b hb=>by subst hb;exact hR
   |ret=>exact fin (some .ret) fun b hb=>by subst hb;exact hR
   |exit id=>exact fin (some (.exit id)) fun b hb=>by subst hb;exact hR
   |goto g=>exact hR.elim
   |panic ch=>exact hR.elim
   |outgrown=>exact hR.elim
 |exit id=>exact q1.elim
 |goto g=>exact q1.elim
 |ret=>exact q1.elim
 |panic ch=>exact q1.elim
 |outgrown=>exact q1.elim
theorem zdl {P:Program} {l:Nat} {pend:Option Code} {fn:FuncId} {nt:Nat} {t:Fr} {ps:List Tmp} {asn body:Code} {dd:Nat} {args:List AV} {h:List Res} {R:AV→List Res→Prop} {lp:LP} (hlp:lp=fun st pend=> .loop l st pend fn nt t ps.toArray asn body dd)
 (hps:Nat.beq ps.length args.length=true) (hpn:(ps.all fun p=>Nat.blt p nt)=true)
 (hb:aw P (some l) nt asn (thn (fun s=>∃t' h2,Ent nt s ⟨t',lp .ready pend::h2,[]⟩∧aw P (some l) nt body (zp7 lp pend R) ⟨t',lp .busy pend::h2,[]⟩) (fun _ _=>False))
  ⟨zmq ps args t,lp .ready pend::h,[]⟩):y3 P (yv l) args (lp .ready pend::h) R:=by
 subst hlp
 exact zpg hps hpn hb
section
variable {P:Program} {ro:Option Nat} {nt:Nat} {c:Code} {Q:Exit→St→Prop} {t:Fr} {h:List Res} {ds:List Nat}
theorem zem {σ:Type} (n:Nat) (p:Nat→σ→Prop) (inv:Nat→σ→St) (x0:σ) (hp:p 0 x0) (h0:Ent nt ⟨t,h,ds⟩ (inv 0 x0))
 (round:∀k x,k≤n→p k x→aw P ro nt c (thn (fun s'=>k < n∧∃x',p (k+1) x'∧Ent nt s' (inv (k+1) x')) Q) (inv k x)):aw P ro nt (.loop c) Q ⟨t,h,ds⟩:=
 u5 (fun x:Nat×σ=>x.1≤n∧p x.1 x.2) (fun x=>inv x.1 x.2) (fun x=>n - x.1) (0,x0) ⟨Nat.zero_le _,hp⟩ h0 fun x hk=>zg3 (fun e s' hq=>by
  cases e with
  |normal=>
   obtain ⟨h1,x',h2,h3⟩:=hq
   exact ⟨(x.1+1,x'),⟨h1,h2⟩,h3,by simp only;omega⟩
  |_=>exact hq) (round x.1 x.2 hk.1 hk.2)
end
section
variable {P:Program} {ro:Option Nat} {nt:Nat} {c:Code} {Q:Exit→St→Prop} {t:Fr} {h:List Res} {ds:List Nat}
end
section
variable {P:Program} {dst:Option Tmp} {ty:TypeId} {pos:String} {after:Array Edge} {guard:Option (Nat×Bool)} {x:Operand} {h:List Res} {f:Operand→Option AV}
theorem zff {T E:TypeId} {n i sz:Nat} {cells out:List AV} {y:Operand} (hx:f x=some (.agg cells)) (hy:f y=some (.v (.int .i64 i))) [Und P T (.array n E)] [IsA P E true] [Siz P E sz]
 (hi:i < n) (hle:i * sz+sz≤cells.length) (ho:(cells.drop (i * sz)).take sz=out):QR P h f ⟨dst,.index T x y,ty,pos,after,guard⟩ (.agg out):=fun X ρ w he=>by
 subst ho
 have hr:=he.rel x _ hx
 generalize hv:ρ x=v at hr
 cases hr with
 |agg _ cs g1 g2=>
  refine ⟨.agg (cs.extract (i * sz) (i * sz+sz)),?_,.agg _ _ (by simp;omega) fun j a b=> ?_⟩
  ·refine run_v _ ?_
   rw [hv,(he.rel y _ hy).v_eq]
   simp only [Instr.index,asIntOf,Sem.run_bind,Sem.run_pure,Result.andThen_ok,Go.Ab.run_underlying (d:=TypeDesc.array n E)]
   rw [if_pos (by omega)]
   simp only [Sem.run_bind,run_sizeOf (n:=sz),Result.andThen_ok,part,zeo (b:=true),if_true,Int.toNat_natCast]
   rfl
  ·simp at a
   simpa using g2 (i * sz+j) (by omega) (by omega)
end
end Go.Ab
