/- Words, by the reference: the same. Conditions: as each lemma states. -/
import Derived.Test.YtcaijocpofcbdaaGreatDoorGAsD
set_option linter.unusedSectionVars false
set_option linter.unusedSimpArgs false
set_option linter.unusedVariables false
set_option maxRecDepth 20000
namespace Go.H
open Go Go.Ab
theorem zln {s:ByteArray} {i:Nat} (h:i < s.size):bt s i=((s.get! i).toNat:Int):=by
 have:s.get! i=s[i]'h:=by
  show s.data[i]! =s.data[i]'h;exact Z7 s.data i h
 rw [bt,W7 h,this]
theorem yiy {i:Nat} (h:zao i=2):194≤i∧i < 224:=by
 unfold zao at h;repeat' split at h
 all_goals first|omega|(exfalso;revert h;decide)
theorem yix {i:Nat} (h:zao i=3):225≤i∧i < 240∧i≠237:=by
 unfold zao at h;repeat' split at h
 all_goals first|omega|(exfalso;revert h;decide)
theorem yd2 {i:Nat} (h:zao i=19):i=224:=by
 unfold zao at h;repeat' split at h
 all_goals first|omega|(exfalso;revert h;decide)
theorem yd1 {i:Nat} (h:zao i=35):i=237:=by
 unfold zao at h;repeat' split at h
 all_goals first|omega|(exfalso;revert h;decide)
theorem yd0 {i:Nat} (h:zao i=52):i=240:=by
 unfold zao at h;repeat' split at h
 all_goals first|omega|(exfalso;revert h;decide)
theorem yiw {i:Nat} (h:zao i=4):241≤i∧i < 244:=by
 unfold zao at h;repeat' split at h
 all_goals first|omega|(exfalso;revert h;decide)
theorem ydz {i:Nat} (h:zao i=68):i=244:=by
 unfold zao at h;repeat' split at h
 all_goals first|omega|(exfalso;revert h;decide)
theorem ytj {s:ByteArray} {a b:Nat} (ha:(s.get! 0).toNat=a) (hb:(s.get! 1).toNat=b) (hs:1 < s.size) (h1:194≤a) (h2:a < 224) (h3:128≤b) (h4:b < 192):(Utf8.decode s 0).2=2:=by
 have a1:decide (1 < s.size)=true:=I4 hs;have e1:(a / 32==6)=true:=by simp;omega
 have e2:(b / 64==2)=true:=by simp;omega
 unfold Utf8.decode;simp only [H9,ha,hb,a1,e1,e2,W3,G4];rw [A0 (by omega),A6 (by omega)]
theorem yee {s:ByteArray} {a b c:Nat} (ha:(s.get! 0).toNat=a) (hb:(s.get! 1).toNat=b) (hc:(s.get! 2).toNat=c) (hs:2 < s.size) (h1:224≤a) (h2:a < 240) (h3:128≤b) (h4:b < 192) (h5:128≤c) (h6:c < 192)
 (g0:a=224→160≤b) (g1:a=237→b < 160):(Utf8.decode s 0).2=3:=by
 have a1:decide (1 < s.size)=true:=I4 (by omega);have a2:decide (2 < s.size)=true:=I4 (by omega);have e0:(a / 32==6)=false:=by simp;omega
 have e1:(a / 16==14)=true:=by simp;omega
 have e2:(b / 64==2)=true:=by simp;omega
 have e3:(c / 64==2)=true:=by simp;omega
 unfold Utf8.decode;simp only [H9,ha,hb,hc,a1,a2,e0,e1,e2,e3,W3,B0,B3,F2,G4];rw [A0 (by omega)];have hv:Utf8.valid ((a % 16 * 4096+b % 64 * 64+c % 64:Nat):Int)=true:=by
  unfold Utf8.valid;have:(a % 16 * 4096+b % 64 * 64+c % 64 < 55296)∨(57343 < a % 16 * 4096+b % 64 * 64+c % 64∧a % 16 * 4096+b % 64 * 64+c % 64≤65535):=by omega
  simp only [B5,P7,G8];omega
 rw [A6];rw [B5];exact ⟨I4 (by omega),hv⟩
theorem yed {s:ByteArray} {a b c d:Nat} (ha:(s.get! 0).toNat=a) (hb:(s.get! 1).toNat=b) (hc:(s.get! 2).toNat=c) (hd:(s.get! 3).toNat=d) (hs:3 < s.size) (h1:240≤a) (h2:a < 245) (h3:128≤b) (h4:b < 192) (h5:128≤c) (h6:c < 192)
 (h7:128≤d) (h8:d < 192) (g0:a=240→144≤b) (g1:a=244→b < 144):(Utf8.decode s 0).2=4:=by
 have a1:decide (1 < s.size)=true:=I4 (by omega);have a2:decide (2 < s.size)=true:=I4 (by omega);have a3:decide (3 < s.size)=true:=I4 (by omega);have e0:(a / 32==6)=false:=by simp;omega
 have e1:(a / 16==14)=false:=by simp;omega
 have e2:(a / 8==30)=true:=by simp;omega
 have e3:(b / 64==2)=true:=by simp;omega
 have e4:(c / 64==2)=true:=by simp;omega
 have e5:(d / 64==2)=true:=by simp;omega
 unfold Utf8.decode;simp only [H9,ha,hb,hc,hd,a1,a2,a3,e0,e1,e2,e3,e4,e5,W3,B0,B3,F2,G4];rw [A0 (by omega)];have hv:Utf8.valid ((a % 8 * 262144+b % 64 * 4096+c % 64 * 64+d % 64:Nat):Int)=true:=by
  unfold Utf8.valid;simp only [B5,P7,G8];omega
 rw [A6];rw [B5];exact ⟨I4 (by omega),hv⟩
theorem ybe {s:ByteArray} (h:(x8 s).2 > 1):(Utf8.decode s 0).2 > 1:=by
 unfold x8 at h;dsimp only at h;split at h
 ·exact absurd h (by decide)
 rename_i hs;split at h
 ·exact absurd h (by simp)
 rename_i hx;have b0:bt s 0=((s.get! 0).toNat:Int):=zln (by omega);rw [b0,J9] at h hx;split at h
 ·exact absurd h (by decide)
 rename_i hz;have hsz:(zao (s.get! 0).toNat % 8:Int) ≥ 2:=by
  rcases zey (s.get! 0).toNat with e|e|e|e|e|e|e|e|e <;> rw [e] at hx ⊢ <;> first|omega|decide
 have b1:bt s 1=((s.get! 1).toNat:Int):=zln (by omega);rw [b1] at h;split at h
 ·exact absurd h (by decide)
 rename_i hb;split at h
 ·rename_i h2;have:zao (s.get! 0).toNat=2:=by
   rcases zey (s.get! 0).toNat with e|e|e|e|e|e|e|e|e <;> rw [e] at hx h2 ⊢ <;> omega
  rw [this] at hb;have:=yiy this;have l:zbr ((2:Int) / 16).toNat=128:=by decide
  have u:zbs ((2:Int) / 16).toNat=191:=by decide
  rw [l,u] at hb;rw [ytj rfl rfl (by omega) this.1 this.2 (by omega) (by omega)];decide
 rename_i h2;have b2:bt s 2=((s.get! 2).toNat:Int):=zln (by omega);rw [b2] at h;split at h
 ·exact absurd h (by decide)
 rename_i hc;split at h
 ·rename_i h3;have hx3:zao (s.get! 0).toNat=19∨zao (s.get! 0).toNat=3∨zao (s.get! 0).toNat=35:=by
   rcases zey (s.get! 0).toNat with e|e|e|e|e|e|e|e|e <;> rw [e] at hx h2 h3 ⊢ <;> omega
  have k:(Utf8.decode s 0).2=3:=by
   rcases hx3 with e|e|e
   ·rw [e] at hb;have l:zbr ((19:Int) / 16).toNat=160:=by decide
    have u:zbs ((19:Int) / 16).toNat=191:=by decide
    rw [l,u] at hb;have:=yd2 e;exact yee rfl rfl rfl (by omega) (by omega) (by omega) (by omega) (by omega) (by omega) (by omega) (by omega) (by omega)
   ·rw [e] at hb;have l:zbr ((3:Int) / 16).toNat=128:=by decide
    have u:zbs ((3:Int) / 16).toNat=191:=by decide
    rw [l,u] at hb;have:=yix e;exact yee rfl rfl rfl (by omega) (by omega) (by omega) (by omega) (by omega) (by omega) (by omega) (by omega) (by omega)
   rw [e] at hb;have l:zbr ((35:Int) / 16).toNat=128:=by decide
   have u:zbs ((35:Int) / 16).toNat=159:=by decide
   rw [l,u] at hb;have:=yd1 e;exact yee rfl rfl rfl (by omega) (by omega) (by omega) (by omega) (by omega) (by omega) (by omega) (by omega) (by omega)
  rw [k];decide
 rename_i h3;have hx4:zao (s.get! 0).toNat=52∨zao (s.get! 0).toNat=4∨zao (s.get! 0).toNat=68:=by
  rcases zey (s.get! 0).toNat with e|e|e|e|e|e|e|e|e <;> rw [e] at hx h2 h3 ⊢ <;> omega
 have hs4:3 < s.size:=by
  rcases hx4 with e|e|e <;> rw [e] at hz <;> omega
 have b3:bt s 3=((s.get! 3).toNat:Int):=zln (by omega);rw [b3] at h;split at h
 ·exact absurd h (by decide)
 rename_i hd;have k:(Utf8.decode s 0).2=4:=by
  rcases hx4 with e|e|e
  ·rw [e] at hb;have l:zbr ((52:Int) / 16).toNat=144:=by decide
   have u:zbs ((52:Int) / 16).toNat=191:=by decide
   rw [l,u] at hb;have:=yd0 e;exact yed rfl rfl rfl rfl (by omega) (by omega) (by omega) (by omega) (by omega) (by omega) (by omega) (by omega) (by omega) (by omega) (by omega)
  ·rw [e] at hb;have l:zbr ((4:Int) / 16).toNat=128:=by decide
   have u:zbs ((4:Int) / 16).toNat=191:=by decide
   rw [l,u] at hb;have:=yiw e;exact yed rfl rfl rfl rfl (by omega) (by omega) (by omega) (by omega) (by omega) (by omega) (by omega) (by omega) (by omega) (by omega) (by omega)
  rw [e] at hb;have l:zbr ((68:Int) / 16).toNat=128:=by decide
  have u:zbs ((68:Int) / 16).toNat=143:=by decide
  rw [l,u] at hb;have:=ydz e;exact yed rfl rfl rfl rfl (by omega) (by omega) (by omega) (by omega) (by omega) (by omega) (by omega) (by omega) (by omega) (by omega) (by omega)
 rw [k];decide
theorem zww {s:ByteArray} (h:(zfq s).2 > 1):(Utf8.decode s 0).2 > 1:=by
 unfold zfq at h;split at h
 ·exact absurd h (by simp)
 exact ybe h
theorem ztk {s:ByteArray} (h:2 < s.size):(s.extract 0 3).toList= [s.get! 0,s.get! 1,s.get! 2]:=by
 rw [ByteArray.toList_eq];have e:(s.extract 0 3).data= #[s.get! 0,s.get! 1,s.get! 2]:=by
  apply A0f
  ·have:(s.extract 0 3).size=3:=by simp;omega
   exact this
  intro i h1 h2;have h3:i < 3:=by simpa using h2
  have hi:i < s.data.size:=by
   have:s.data.size=s.size:=rfl;omega
  have e1:(s.extract 0 3).data[i]=s.data[i]:=by
   simp [ByteArray.extract,ByteArray.copySlice]
  have e2:s.get! i=s.data[i]:=Z7 s.data i hi;rw [e1,←e2];match i,h3 with
  |0,_=>rfl
  |1,_=>rfl
  |2,_=>rfl
 rw [e]
theorem ycl {s:ByteArray} (h:(Utf8.decode s 0).1=65533):((zfq s).2 > 1) ↔ ¬(s.size < 3∨(s.extract 0 3).toList≠ [239,191,189]):=by
 constructor
 ·intro h1;have h2:=zww h1;rcases zyg h with k|⟨k1,k2,k3,k4,k5⟩
  ·omega
  rintro (q|q)
  ·omega
  apply q;rw [ztk k2];have a:s.get! 0=239:=A0h.1 k3;have b:s.get! 1=191:=A0h.1 k4;have c:s.get! 2=189:=A0h.1 k5;rw [a,b,c]
 intro h1;have h2:2 < s.size:=Nat.lt_of_not_le fun q=>h1 (.inl (by omega));have h3:(s.extract 0 3).toList= [239,191,189]:=H5 fun q=>h1 (.inr q);rw [ztk h2] at h3;simp only [P9,Z5] at h3;obtain ⟨a,b,c⟩:=h3;have b0:bt s 0=239:=by rw [zln (by omega),a];rfl
 have b1:bt s 1=191:=by rw [zln (by omega),b];rfl
 have b2:bt s 2=189:=by rw [zln (by omega),c];rfl
 have e:zfq s=x8 s:=by rw [zfq,A0 (by omega)]
 have f:zao (239:Int).toNat=3:=by decide
 rw [e,x8,A0 (by omega)];simp only [b0,f];rw [A0 (by decide),A0 (by omega),b1,A0 (by decide),A0 (by decide),b2,A0 (by decide),A6 (by decide)];decide
theorem zx9 {s:ByteArray} {i:Nat} (hi:i < s.size):zd9 s zdz i (Utf8.decode s i).1=zdz (zci (s.extract i s.size)).1∧
 (zd9 s zdz i (Utf8.decode s i).1=true→zci (s.extract i s.size)=(((Utf8.decode s i).1:Int),((Utf8.decode s i).2:Int))):=by
 obtain ⟨t,ht⟩:∃t,t=s.extract i s.size:=⟨_,rfl⟩;have hsz:t.size=s.size - i:=by rw [ht];simp
 have hd:Utf8.decode s i=Utf8.decode t 0:=by rw [ht,yo2]
 unfold zd9 zr3 zci;rw [←ht,hd,A0 (by omega)];by_cases h5:(Utf8.decode t 0).1=65533
 ·have hb:(((Utf8.decode t 0).1:Int) !=65533)=false:=by rw [h5];rfl
  rw [hb,C4];by_cases how:(zfq t).2 > 1
  ·have ho:=(ycl h5).1 how;rw [A0 (fun q=>ho q.2),I4 how,h5];refine ⟨rfl,fun _=>?_⟩;have h2:(Utf8.decode t 0).2=3:=by
    rcases zyg h5 with k|k
    ·have:=zww how;omega
    exact k.1
   rw [h2];have:(Utf8.encode ((65533:Nat):Int)).size=3:=by rw [zhd (by decide)];rfl
   rw [this]
  have ho:t.size < 3∨(t.extract 0 3).toList≠ [239,191,189]:=H5 fun q=>how ((ycl h5).2 q);rw [A6 ⟨h5,ho⟩,I9 how];refine ⟨rfl,fun q=>?_⟩;rw [B0] at q;cases q
 have hb:(((Utf8.decode t 0).1:Int) !=65533)=true:=by
  simp only [bne_iff_ne,ne_eq];omega
 rw [hb,D1,B9,A0 (fun q=>h5 q.1)];refine ⟨rfl,fun _=>?_⟩;rw [yi4 t 0 (fun q=>h5 q.1)]
theorem yrq {s:ByteArray} (hs:0 < s.size):zkg (bt s 0)=zkg ((Utf8.decode s 0).1:Int):=by
 rw [zln hs];have key:(Utf8.decode s 0).1=(s.get! 0).toNat∨((s.get! 0).toNat ≥ 128∧(Utf8.decode s 0).1 ≥ 128):=by
  unfold Utf8.decode;dsimp only;simp only [H9];split
  ·exact .inl rfl
  refine .inr ⟨by omega,?_⟩;repeat' split
  all_goals first|(simp only [Y1];omega)|(rename_i q;have q2:=(P1.1 q).1;simp only [Y1,G8] at q2;simp only [Y1];omega)|decide
 rcases key with k|⟨k1,k2⟩
 ·rw [k]
 have a:∀n:Nat,n ≥ 128→zkg (n:Int)=false:=fun n hn=>by
  unfold zkg;rw [I9 (show ¬((n:Int)≤57) by omega),C2]
 rw [a _ k1,a _ k2]
theorem yr3 (c:Int):(zue c && zkg c)=false:=by
 unfold zue zkg;by_cases h:c ≥ 48∧c≤57
 ·have e1:(c==95)=false:=by simp;omega
  rw [e1,I9 (show ¬c ≥ 97 by omega),I9 (show ¬c ≥ 65 by omega),I9 (show ¬c ≥ 128 by omega)];simp
 have:(decide (c ≥ 48) && decide (c≤57))=false:=by
  rw [←Bool.decide_and,I9 h]
 rw [this,C2]
def zim (s:ByteArray) (i:Nat):Bool:=
 if h:i < s.size then
  if (!zue (zci (s.extract i s.size)).1) && (decide (i=0)|| !zkg (zci (s.extract i s.size)).1) then false
  else zim s (i+max (zci (s.extract i s.size)).2.toNat 1)
 else true
 termination_by s.size - i
 decreasing_by omega
theorem yfx (s:ByteArray):∀(n i:Nat),s.size - i≤n→0 < i→zim s i=((zeg s (zd9 s zdz) i:Int)==s.size):=by
 intro n;induction n with
 |zero=>
  intro i hn hi;rw [zim,X7 (by omega),zib (by omega)];simp
 |succ n ih=>
  intro i hn hi;by_cases h:i < s.size
  ·rw [zim,W7 h];obtain ⟨h1,h2⟩:=zx9 h;have e:((!zue (zci (s.extract i s.size)).1) && (decide (i=0)|| !zkg (zci (s.extract i s.size)).1))= !zd9 s zdz i (Utf8.decode s i).1:=by
    rw [h1,I9 (show ¬i=0 by omega),C4,zdz,Bool.not_or]
   rw [e];cases hk:zd9 s zdz i (Utf8.decode s i).1 with
   |true=>
    have h3:=h2 hk;have hw:=zjm s i;rw [zjn h hk,h3];simp only [D8,B3,F2];have e4:i+max ((Utf8.decode s i).2:Int).toNat 1=i+(Utf8.decode s i).2:=by simp only [J9];omega
    rw [e4];exact ih _ (by omega) (by omega)
   |false=>
    rw [zi4 h hk];simp only [D3,G4];symm;rw [H1];omega
  rw [zim,X7 h,zib h];simp
theorem zgy (s:ByteArray):wordB s=((!(s.toList== [])) && decide ((s.size:Int)≤24) && zim s 0):=by
 unfold wordB;by_cases h:0 < s.size
 ·obtain ⟨h1,h2⟩:=zx9 h;rw [N3 (!(s.toList== []) && _)];congr 1;rw [zim,W7 h,I4 (rfl:(0:Nat)=0),D1,E3,yrq h];cases hk:zd9 s zdz 0 (Utf8.decode s 0).1 with
  |true=>
   have h3:=h2 hk;have hw:=zjm s 0;rw [zjn h hk,h3];rw [hk,h3,zdz] at h1;have hln:=yr3 ((Utf8.decode s 0).1:Int);dsimp only at h1 ⊢;cases hl:zue ((Utf8.decode s 0).1:Int) with
   |true=>
    rw [hl,B9] at hln;rw [hln];simp only [D3,B9,D8,B3,F2];have e4:0+max ((Utf8.decode s 0).2:Int).toNat 1=0+(Utf8.decode s 0).2:=by simp only [J9];omega
    rw [e4];exact (yfx s _ _ (C5 _) (by omega)).symm
   |false=>
    rw [hl,C4] at h1;rw [←h1];rfl
  |false=>
   rw [zi4 h hk];rw [hk] at h1;have:zue (zci (s.extract 0 s.size)).1=false:=by
    unfold zdz at h1;cases hl:zue (zci (s.extract 0 s.size)).1 with
    |true=>rw [hl,D1] at h1;cases h1
    |false=>rfl
   rw [this];simp only [D3,G4];rw [Q9];right;rw [H1];omega
 have e:(s.toList== [])=true:=by
  have:s.toList= []:=by
   rw [ByteArray.toList_eq];apply I2;have:s.data.toList.length=s.size:=by simp
   omega
  rw [this];rfl
 rw [e];rfl
theorem zxu (c:Int):zs3 c=zue c:=by
 unfold zs3 zue;cases (c==95) <;> cases (decide (c ≥ 97) && decide (c≤122)) <;> cases (decide (c ≥ 65) && decide (c≤90)) <;> rfl
theorem yko (c:Nat):1≤(Utf8.encode (c:Int)).size∧(Utf8.encode (c:Int)).size≤4:=by
 cases h:Utf8.valid (c:Int) with
 |true=>
  rw [zhd h];repeat' split
  all_goals omega
 |false=>
  have:Utf8.encode (c:Int)=Utf8.encode ((65533:Nat):Int):=by
   unfold Utf8.encode;rw [h];simp only [B3,F2];rfl
  rw [this,zhd (by decide)];decide
theorem yiz {s:ByteArray} {i:Nat} (hi:i < s.size):∃(c:Int) (n:Nat),zci (s.extract i s.size)=(c,(n:Int))∧1≤n∧n≤4:=by
 have hsz:(s.extract i s.size).size=s.size - i:=by simp
 unfold zci;rw [A0 (by omega)];split
 ·exact ⟨-1,1,rfl,by omega,by omega⟩
 exact ⟨_,_,rfl,(yko _).1,(yko _).2⟩
theorem zwn {s:ByteArray} {i n:Nat} {c:Int} (h1:i < s.size) (hw:zci (s.extract i s.size)=(c,(n:Int))) (hn:1≤n) (hc:zs3 c=true∨(i≠0∧zkg c=true)):zim s i=zim s (i+n):=by
 rw [zxu] at hc;rw [zim,W7 h1,hw];dsimp only;rw [A0,J9,show max n 1=n by omega];rcases hc with h|⟨h2,h3⟩
 ·rw [h];simp
 rw [h3,I9 h2];simp
theorem zol {s:ByteArray} {i n:Nat} {c:Int} (h1:i < s.size) (hw:zci (s.extract i s.size)=(c,(n:Int))) (hl:zs3 c=false) (hc:i=0∨zkg c=false):zim s i=false:=by
 rw [zxu] at hl;rw [zim,W7 h1,hw];dsimp only;rw [A6];rw [hl];rcases hc with h|h
 ·rw [I4 h];rfl
 rw [h];simp
theorem yas {s:ByteArray} {i:Nat} (h:¬i < s.size):zim s i=true:=by rw [zim,X7 h]
theorem yea:(ByteArray.mk #[]).toList= []:=by rw [ByteArray.toList_eq]
theorem zxr (x:ByteArray) (l:List ByteArray):yak x l= !(l.all fun t=> !(x.toList==t.toList)):=by
 rw [K4,yru];simp only [N0,V9,Z8,V5,K7];constructor
 ·intro h;exact ⟨x,h,by simp⟩
 rintro ⟨t,h,e0⟩;have e:x.toList=t.toList:=by simpa using e0
 have:x=t:=by
  cases x with
  |mk a=>
   cases t with
   |mk b=>
    rw [ByteArray.toList_eq,ByteArray.toList_eq] at e;congr 1;exact Array.toList_inj.1 e
 rw [this];exact h
theorem zz7 {l:List ByteArray} {k:Nat} (hk:k < l.length) (hz:zbj [] l=zbj (l.take k) (l.drop k)) (hw:wordB l[k]=true) (hm:(l.take k).all (fun t=> !(l[k].toList==t.toList))=true):
 zbj [] l=zbj (l.take (k+1)) (l.drop (k+1)):=by
 rw [hz,A8 hk,zbj,hw,zxr,hm,A5 hk];rfl
theorem yoq {l:List ByteArray} {k:Nat} (hk:k < l.length) (hz:zbj [] l=zbj (l.take k) (l.drop k)) (hw:wordB l[k]=false):zbj [] l=false:=by
 rw [hz,A8 hk,zbj,hw];rfl
theorem yor {l:List ByteArray} {k:Nat} (hk:k < l.length) (hz:zbj [] l=zbj (l.take k) (l.drop k)) (hm:(l.take k).all (fun t=> !(l[k].toList==t.toList))=false):zbj [] l=false:=by
 rw [hz,A8 hk,zbj,zxr,hm];simp
theorem yos {l:List ByteArray} {k:Nat} (hk:k=l.length) (hz:zbj [] l=zbj (l.take k) (l.drop k)):zbj [] l=true:=by
 rw [hz,hk,E5];rfl
theorem yro (h:Hist):okK h 4=(zr7 h && zcr 300 h.ts && zcr 60 h.ss && zcr 300 h.os && zcr 60 h.ps):=rfl
theorem zjr {h:Hist} (hn:zcr 300 h.ts=false∨zcr 60 h.ss=false∨zcr 300 h.os=false∨zcr 60 h.ps=false):zaa h=false:=by
 rw [zaa,yro];rcases hn with h|h|h|h <;> simp [h]
theorem ybg {h:Hist} (hn:h.evs.all (zcj h)=false):zaa h=false:=by rw [zaa,hn];simp
theorem zsb {h:Hist} (hn:h.ords.all (zrq h)=false):zaa h=false:=by rw [zaa,hn];simp
theorem zmt {h:Hist} (hn:h.mats.all (zvo h)=false):zaa h=false:=by rw [zaa,hn];simp
theorem zsa {h:Hist} (hn:h.wants.all (zut h)=false):zaa h=false:=by rw [zaa,hn];simp
theorem ybf {h:Hist} (n0:zcr 300 h.ts=true) (n1:zcr 60 h.ss=true) (n2:zcr 300 h.os=true) (n3:zcr 60 h.ps=true) (a1:h.evs.all (zcj h)=true) (a2:h.ords.all (zrq h)=true) (a3:h.mats.all (zvo h)=true)
 (a4:h.wants.all (zut h)=true):zaa h=(decide ((h.evs.length:Int)≤3000) && decide ((h.ords.length:Int)≤3000) && decide ((h.mats.length:Int)≤3000) && decide ((h.wants.length:Int)≤3000)):=by
 rw [zaa,yro,n0,n1,n2,n3,a1,a2,a3,a4,zr7];simp only [E3];have e:decide (max (max (h.ords.length:Int) h.mats.length) h.wants.length≤3000)=(decide ((h.ords.length:Int)≤3000) && decide ((h.mats.length:Int)≤3000) && decide ((h.wants.length:Int)≤3000)):=by
  rw [K4];simp only [G8,B5];omega
 rw [e];simp only [N3]
theorem zvh (h:Hist) (r:Ord):zrq h r=(isB r.o h.os.length && zg2 h r.ts):=by rw [zrq,zeb,yp7]
theorem zqi (h:Hist) (r:Mat):zvo h r=(isB r.p h.ps.length && isB r.o h.os.length && zg2 h r.ts):=by rw [zvo,zeb,zeb,yp7,N3]
theorem zus (h:Hist) (r:Wan):zut h r=(isB r.s h.ss.length && isB r.bits 16):=by
 rw [zut,zeb,N3];congr 1;rw [isB];congr 1;rw [decide_eq_decide];omega
abbrev Rw:=Nat→List Int
def yfr (l:List Int) (n:Int):List Int:=if atI n 0 l ≥ 0 then l else l++ [n]
def ypl (l:List Int) (v:Ver):List Int:=if v.k=0 then l else yfr l v.t
def zas (L:Rw) (x:Nat×Int):Rw:=fun i=>match Nat.beq i x.1 with
 |true=>yfr (L i) x.2
 |false=>L i
def zy1 (L:Rw) (v:Ver):Rw:=fun i=>match Nat.beq i 0 with
 |true=>ypl (L i) v
 |false=>L i
def stepS (L:Rw) (s:Seen):Rw:=zy1 (zas L (2,s.o)) s.v
def zf5 (L:Rw) (e:Ev):Rw:=
 if e.kind=1 then zas L (1,e.s) else if e.kind=2∨e.kind=3 then zy1 (zas L (2,e.o)) e.v else if e.kind=4 then zas L (3,e.p) else L
def stepE (L:Rw) (e:Ev):Rw:=e.scan.foldl stepS (zf5 (zas L (0,e.t)) e)
def zpk (L:Rw) (t:Int):Rw:=zas L (0,t)
def zr4 (L:Rw) (r:Ord):Rw:=r.ts.foldl zpk (zas L (2,r.o))
def stepM (L:Rw) (r:Mat):Rw:=r.ts.foldl zpk (zas (zas L (3,r.p)) (2,r.o))
def yf9 (L:Rw) (r:Wan):Rw:=zas L (1,r.s)
def noR:Rw:=fun _=> []
def spE (h:Hist) (k:Nat):Rw:=(h.evs.take k).foldl stepE noR
def spO (h:Hist) (k:Nat):Rw:=(h.ords.take k).foldl zr4 (h.evs.foldl stepE noR)
def spM (h:Hist) (k:Nat):Rw:=(h.mats.take k).foldl stepM (h.ords.foldl zr4 (h.evs.foldl stepE noR))
def spW (h:Hist) (k:Nat):Rw:=(h.wants.take k).foldl yf9 (h.mats.foldl stepM (h.ords.foldl zr4 (h.evs.foldl stepE noR)))
def zco (h:Hist):Rw:=h.wants.foldl yf9 (h.mats.foldl stepM (h.ords.foldl zr4 (h.evs.foldl stepE noR)))
theorem zhb {α β:Type} (f:β→α→β) (b:β) {l:List α} {k:Nat} (hk:k < l.length):(l.take (k+1)).foldl f b=f ((l.take k).foldl f b) l[k]:=by
 rw [A5 hk,K0];rfl
theorem zjf {α β:Type} (f:β→α→β) (b:β) {l:List α} {k:Nat} (hk:k=l.length):(l.take k).foldl f b=l.foldl f b:=by
 rw [hk,C7]
def Bd (L:Rw) (n:Nat):Prop:=∀i,(L i).length≤n
theorem zyr (l:List Int) (n:Int):(yfr l n).length≤l.length+1:=by
 unfold yfr;split <;> simp
theorem yjp (l:List Int) (v:Ver):(ypl l v).length≤l.length+1:=by
 unfold ypl;split
 ·omega
 exact zyr _ _
theorem Bd.f {L:Rw} {n:Nat} (h:Bd L n) (x:Nat×Int):Bd (zas L x) (n+1):=fun i=>by
 unfold zas;cases Nat.beq i x.1 with
 |true=>exact B8 (zyr _ _) (Nat.succ_le_succ (h i))
 |false=>exact Nat.le_succ_of_le (h i)
theorem Bd.v {L:Rw} {n:Nat} (h:Bd L n) (v:Ver):Bd (zy1 L v) (n+1):=fun i=>by
 unfold zy1;cases Nat.beq i 0 with
 |true=>exact B8 (yjp _ _) (Nat.succ_le_succ (h i))
 |false=>exact Nat.le_succ_of_le (h i)
theorem Bd.le {L:Rw} {n m:Nat} (h:Bd L n) (hm:n≤m):Bd L m:=fun i=>B8 (h i) hm
theorem Bd.fold {α:Type} {f:Rw→α→Rw} {c:Nat}:∀{l:List α} {L:Rw} {n:Nat},(∀x∈l,∀L n,Bd L n→Bd (f L x) (n+c))→Bd L n→Bd (l.foldl f L) (n+c * l.length)
 | [],L,n,_,h=>h.le (by simp)
 |x::r,L,n,hf,h=>(Bd.fold (fun y hy=>hf y (by simp [hy])) (hf x (by simp) L n h)).le (by simp only [E6,Nat.mul_succ];omega)
theorem Bd.s {L:Rw} {n:Nat} (h:Bd L n) (s:Seen):Bd (stepS L s) (n+2):=(h.f _).v _
theorem Bd.k {L:Rw} {n:Nat} (h:Bd L n) (e:Ev):Bd (zf5 L e) (n+2):=by
 unfold zf5;split
 ·exact (h.f _).le (by omega)
 split
 ·exact ((h.f _).v _).le (by omega)
 split
 ·exact (h.f _).le (by omega)
 exact h.le (by omega)
theorem Bd.e {L:Rw} {n:Nat} (h:Bd L n) {e:Ev} (hs:e.scan.length≤3000):Bd (stepE L e) (n+10000):=
 (Bd.fold (c:=2) (fun s _ L n h=>h.s s) ((h.f _).k e)).le (by omega)
theorem Bd.t {L:Rw} {n:Nat} (h:Bd L n) (t:Int):Bd (zpk L t) (n+1):=h.f _
theorem Bd.o {L:Rw} {n:Nat} (h:Bd L n) {r:Ord} (hs:r.ts.length≤3000):Bd (zr4 L r) (n+10000):=
 (Bd.fold (c:=1) (fun s _ L n h=>h.t s) (h.f _)).le (by omega)
theorem Bd.m {L:Rw} {n:Nat} (h:Bd L n) {r:Mat} (hs:r.ts.length≤3000):Bd (stepM L r) (n+10000):=
 (Bd.fold (c:=1) (fun s _ L n h=>h.t s) ((h.f _).f _)).le (by omega)
theorem bdE {h:Hist} (la:Lim 3000 h) (k:Nat) (hk:k≤h.evs.length):Bd (spE h k) 30000000:=by
 have:=Bd.fold (c:=10000) (l:=h.evs.take k) (L:=noR) (n:=0) (fun e he L n hb=>hb.e (la.scans e (N6 he))) (fun _=>G1 _);have hl:=la.evs;exact this.le (by rw [D5];omega)
theorem bdO {h:Hist} (la:Lim 3000 h) (k:Nat) (hk:k≤h.ords.length):Bd (spO h k) 60000000:=by
 have h0:=bdE la h.evs.length (C5 _);rw [spE,C7] at h0;have:=Bd.fold (c:=10000) (l:=h.ords.take k) (fun e he L n hb=>hb.o (la.ordts e (N6 he))) h0;have hl:=la.ords;exact this.le (by rw [D5];omega)
theorem bdM {h:Hist} (la:Lim 3000 h) (k:Nat) (hk:k≤h.mats.length):Bd (spM h k) 90000000:=by
 have h0:=bdO la h.ords.length (C5 _);rw [spO,C7] at h0;have:=Bd.fold (c:=10000) (l:=h.mats.take k) (fun e he L n hb=>hb.m (la.matts e (N6 he))) h0;have hl:=la.mats;exact this.le (by rw [D5];omega)
theorem bdW {h:Hist} (la:Lim 3000 h) (k:Nat) (hk:k≤h.wants.length):Bd (spW h k) 90003000:=by
 have h0:=bdM la h.mats.length (C5 _);rw [spM,C7] at h0;have:=Bd.fold (c:=1) (l:=h.wants.take k) (fun e he L n hb=>Bd.f hb (1,e.s)) h0;have hl:=la.wants;exact this.le (by rw [D5];omega)
def zfx:Nat→List Int→Bool
 |_,[]=>true
 |i,x::r=>x==(i:Int) && zfx (i+1) r
def okS (h:Hist) (s:Nat):Bool:=((zco h s).length:Int)==(nmK h s).length && zfx 0 (zco h s)
def zjx (h:Hist):Bool:=zaa h && (List.range 4).all (okS h)
theorem yaz {l:List Int} {k:Nat} (hk:k < l.length) (hz:zfx 0 l=zfx k (l.drop k)) (hx:l[k]=(k:Int)):zfx 0 l=zfx (k+1) (l.drop (k+1)):=by
 rw [hz,A8 hk,zfx,hx];simp
theorem yp4 {l:List Int} {k:Nat} (hk:k < l.length) (hz:zfx 0 l=zfx k (l.drop k)) (hx:l[k]≠(k:Int)):zfx 0 l=false:=by
 rw [hz,A8 hk,zfx,H1.2 hx,B0]
theorem yp5 {l:List Int} {k:Nat} (hk:k=l.length) (hz:zfx 0 l=zfx k (l.drop k)):zfx 0 l=true:=by
 rw [hz,hk,E5];rfl
def upR (n:Nat):List Int:=(List.range n).map fun i:Nat=>(i:Int)
theorem zmn:∀(l:List Int) (i:Nat),zfx i l=true ↔ ∀j,(h:j < l.length)→l[j]=((i+j:Nat):Int)
 | [],i=>by simp [zfx]
 |x::r,i=>by
  rw [zfx,B5,zmn r (i+1),K7];constructor
  ·rintro ⟨h1,h2⟩ j hj;cases j with
   |zero=>simpa using h1
   |succ j=>simp only [O1];rw [h2 j (by simpa using hj)];omega
  intro h;refine ⟨by have:=h 0 (by simp);rw [N2] at this;exact this,fun j hj=>?_⟩;have:=h (j+1) (by simpa using hj);simp only [O1] at this;rw [this];omega
theorem yf3 (n:Nat):zfx 0 (upR n)=true:=(zmn _ _).2 fun j hj=>by simp [upR]
theorem zwj (n:Int):∀(l:List Int) (i:Nat),atI n i l ≥ 0 ↔ n∈l
 | [],i=>by simp [atI]
 |x::r,i=>by
  unfold atI;split
  ·rename_i h;simp [h]
  rename_i h;rw [zwj n r (i+1),C9];constructor
  ·intro k;exact .inr k
  rintro (k|k)
  ·exact absurd k.symm h
  exact k
theorem zrg (l:List Int) (n:Int):yfr l n=if n∈l then l else l++ [n]:=by
 unfold yfr;by_cases h:n∈l
 ·rw [A6 ((zwj n l 0).2 h),A6 h]
 rw [A0 (fun q=>h ((zwj n l 0).1 q)),A0 h]
theorem zvn {a:Nat} {n:Int}:n∈upR a ↔ 0≤n∧n < a:=by
 simp only [upR,H2,H4];constructor
 ·rintro ⟨i,hi,rfl⟩;omega
 rintro ⟨h1,h2⟩;exact ⟨n.toNat,by omega,by omega⟩
theorem zpw (L:Rw) (x:Nat×Int):zas L x x.1=yfr (L x.1) x.2:=by
 unfold zas;rw [Nat.beq_refl]
theorem zwz (L:Rw) (x:Nat×Int) {i:Nat} (h:i≠x.1):zas L x i=L i:=by
 unfold zas;rw [show Nat.beq i x.1=false from by
  cases q:Nat.beq i x.1 with
  |false=>rfl
  |true=>exact absurd (C3 q) h]
theorem grow (xs:List (Nat×Int)):∀(L:Rw) (s:Nat),∃m,xs.foldl zas L s=L s++m:=by
 induction xs with
 |nil=>intro L s;exact ⟨[],by simp⟩
 |cons x xs ih=>
  intro L s;obtain ⟨m,hm⟩:=ih (zas L x) s;rw [K1,hm];by_cases h:s=x.1
  ·subst h;rw [zpw,zrg];split
   ·exact ⟨m,rfl⟩
   exact ⟨x.2::m,by simp⟩
  rw [zwz _ _ h];exact ⟨m,rfl⟩
def zn6 (L:Rw) (m:List Int):Prop:=m.length=4∧∀s,s < 4→0≤m.getD s 0∧L s=upR (m.getD s 0).toNat
theorem yh0 (xs:List (Nat×Int)):∀(L:Rw) (m:List Int),(∀x∈xs,x.1 < 4∧0≤x.2)→zn6 L m→
 (∃m',goes zah (some m) xs=some m'∧zn6 (xs.foldl zas L) m')∨(goes zah (some m) xs=none∧∃s,s < 4∧zfx 0 (xs.foldl zas L s)=false):=by
 induction xs with
 |nil=>intro L m _ hi;exact .inl ⟨m,rfl,hi⟩
 |cons x xs ih=>
  intro L m hok hi;obtain ⟨h4,h0⟩:=hok x (by simp);obtain ⟨hl,hr⟩:=hi;have hx:=hr x.1 h4;by_cases hgt:x.2 > m.getD x.1 0
  ·right;have e:zah m x=none:=by unfold zah;dsimp only;rw [A6 hgt]
   refine ⟨?_,x.1,h4,?_⟩
   ·show goes zah ((some m).bind fun s=>zah s x) xs=none;rw [J3,e,zj7]
   rw [K1];obtain ⟨t,ht⟩:=grow xs (zas L x) x.1;rw [ht,zpw,hx.2,zrg,A0 (fun q=>by have:=(zvn.1 q).2;omega)];cases hq:zfx 0 (upR (m.getD x.1 0).toNat++ [x.2]++t) with
   |false=>rfl
   |true=>
    have:=(zmn _ _).1 hq (m.getD x.1 0).toNat (by simp [upR]);rw [F4 (by simp [upR]),F5 (by simp [upR])] at this;have hgd:m.getD x.1 0=m[x.1]?.getD 0:=by simp [List.getD]
    have:=hx.1;simp [upR] at *;omega
  have e:zah m x=some (m.set x.1 (max (m.getD x.1 0) (x.2+1))):=by unfold zah;dsimp only;rw [A0 hgt]
  have hi2:zn6 (zas L x) (m.set x.1 (max (m.getD x.1 0) (x.2+1))):=by
   refine ⟨by simp [hl],fun s hs=>?_⟩;by_cases hsx:s=x.1
   ·subst hsx;have eg:(m.set x.1 (max (m.getD x.1 0) (x.2+1))).getD x.1 0=max (m.getD x.1 0) (x.2+1):=by simp [List.getD,hl,h4]
    rw [eg,zpw,hx.2,zrg];refine ⟨by omega,?_⟩;by_cases hlt:x.2 < m.getD x.1 0
    ·rw [A6 (zvn.2 ⟨h0,by omega⟩),show max (m.getD x.1 0) (x.2+1)=m.getD x.1 0 by omega]
    have heq:x.2=m.getD x.1 0:=by omega
    rw [A0 (fun q=>by have:=(zvn.1 q).2;omega),heq];have e2:(max (m.getD x.1 0) (m.getD x.1 0+1)).toNat=(m.getD x.1 0).toNat+1:=by omega
    rw [e2,upR,upR,S3,D9];have:(((m.getD x.1 0).toNat:Nat):Int)=m.getD x.1 0:=U8 hx.1;simp only [F6,I1,this]
   have eg:(m.set x.1 (max (m.getD x.1 0) (x.2+1))).getD s 0=m.getD s 0:=by simp [List.getD,P0 (M8 hsx)]
   rw [eg,zwz _ _ hsx];exact hr s hs
  have e3:goes zah (some m) (x::xs)=goes zah (some (m.set x.1 (max (m.getD x.1 0) (x.2+1)))) xs:=by
   show goes zah ((some m).bind fun s=>zah s x) xs=_;rw [J3,e]
  rw [e3,K1];exact ih _ _ (fun y hy=>hok y (by simp [hy])) hi2
theorem zwy {L:Rw} {v:Ver} (hk:0≤v.k):zy1 L v=(zga v).foldl zas L:=by
 funext i;unfold zy1 zga ypl;by_cases h:v.k=0
 ·rw [A6 h,A0 (by simp;omega)];cases hb:Nat.beq i 0 with
  |true=>rw [C3 hb];rfl
  |false=>rfl
 rw [A0 h,A6 (I4 (by omega))];show _=zas L (0,v.t) i;unfold zas;cases hb:Nat.beq i 0 with
 |true=>rw [C3 hb]
 |false=>rfl
theorem yay {ts:List ByteArray} {v:Ver} (h:zon ts v=true):0≤v.k:=by
 unfold zon at h;split at h
 ·rename_i q;simp at q;omega
 simp at h;omega
theorem yga {L:Rw} {s:Seen} (hk:0≤s.v.k):stepS L s=(zsc s).foldl zas L:=by
 rw [stepS,zwy hk];rfl
theorem yit {l:List Seen} (h:∀s∈l,0≤s.v.k):∀L:Rw,l.foldl stepS L=(l.flatMap zsc).foldl zas L:=by
 induction l with
 |nil=>intro L;rfl
 |cons s l ih=>
  intro L;rw [K1,I6,K0,yga (h s (by simp)),ih (fun x hx=>h x (by simp [hx]))]
theorem ygb {L:Rw} {e:Ev} (hk:e.kind=2∨e.kind=3→0≤e.v.k):zf5 L e=(zgr e).foldl zas L:=by
 unfold zf5 zgr;split
 ·rfl
 split
 ·rename_i h;rw [zwy (hk h)];rfl
 split <;> rfl
theorem ygc {h:Hist} {L:Rw} {e:Ev} (he:zcj h e=true):H.stepE L e=(evL e).foldl zas L:=by
 obtain ⟨h1,h7,ht,hc,hq⟩:=zep he;have hk:e.kind=2∨e.kind=3→0≤e.v.k:=by
  intro hk;unfold zhf at hc;rcases hk with hk|hk
  ·rw [A0 (by omega),A6 hk] at hc;simp only [zbu,B5] at hc;exact yay hc.1.1.2
  rw [A0 (by omega),A0 (by omega),A6 hk] at hc;simp only [ze3,B5] at hc;exact yay hc.2
 have hs:∀s∈e.scan,0≤s.v.k:=by
  intro s hs;by_cases k4:e.kind=4
  ·unfold zhf at hc;rw [A0 (by omega),A0 (by omega),A0 (by omega),A6 k4] at hc;simp only [zdh,B5,B7] at hc;have:=hc.2 s hs;simp only [zgk,B5] at this;exact yay this.2
  have:e.scan= []:=by
   rw [←hq];unfold zhf;by_cases k1:e.kind=1
   ·rw [A6 k1]
   rw [A0 k1];by_cases k2:e.kind=2
   ·rw [A6 k2]
   rw [A0 k2];by_cases k3:e.kind=3
   ·rw [A6 k3]
   rw [A0 k3,A0 k4]
  rw [this] at hs;cases hs
 unfold H.stepE evL;rw [K1,K0,yit hs,ygb hk]
theorem yiu {α:Type} {f:Rw→α→Rw} {g:α→List (Nat×Int)} {l:List α} (h:∀x∈l,∀L,f L x=(g x).foldl zas L):∀L,l.foldl f L=(l.flatMap g).foldl zas L:=by
 induction l with
 |nil=>intro L;rfl
 |cons x l ih=>
  intro L;rw [K1,I6,K0,h x (by simp),ih (fun y hy=>h y (by simp [hy]))]
theorem ydw:∀(ts:List Int) (L:Rw),ts.foldl zpk L=(tsL ts).foldl zas L
 | [],L=>rfl
 |t::ts,L=>ydw ts _
theorem zy3 {h:Hist} (hs:zaa h=true):zco h=(zcn h).foldl zas noR:=by
 obtain ⟨_,he,ho,hm,hw⟩:=zc6 hs;unfold zco zcn;rw [K0,K0,K0,yiu (g:=evL) (fun e q L=>ygc (he e q)),yiu (f:=zr4) (g:=yfo) (fun r _ L=>ydw _ _),yiu (f:=stepM) (g:=yal) (fun r _ L=>ydw _ _),yiu (f:=yf9) (g:=zur) (fun r _ L=>rfl)]
theorem ybt (h:Hist):zjx h=zfy h:=by
 unfold zjx zfy;cases hs:zaa h with
 |false=>rfl
 |true=>
  rw [B9,B9];have hok:=zr9 hs
  have h0:zn6 noR [0,0,0,0]:=⟨rfl,fun s hs=>by
   match s,hs with
   |0,_=>exact ⟨by decide,rfl⟩
   |1,_=>exact ⟨by decide,rfl⟩
   |2,_=>exact ⟨by decide,rfl⟩
   |3,_=>exact ⟨by decide,rfl⟩⟩
  have key:=yh0 (zcn h) noR [0,0,0,0] (fun x hx=>⟨(hok x hx).1,(hok x hx).2.1⟩) h0;rw [←zy3 hs] at key
  have hlen:∀s,s < 4→(zj6 h).getD s 0=((nmK h s).length:Int):=fun s hs=>by
   match s,hs with
   |0,_=>rfl
   |1,_=>rfl
   |2,_=>rfl
   |3,_=>rfl
  rcases key with ⟨m,e,hl,hi⟩|⟨e,s,hs4,hu⟩
  ·rw [znf,e];rw [K4];simp only [B7,H4,K7,D6]
   have hks:∀s,s < 4→(okS h s=true ↔ m.getD s 0=((nmK h s).length:Int)):=fun s hs4=>by
    obtain ⟨h1,h2⟩:=hi s hs4;unfold okS;rw [h2,yf3,E3,K7];simp only [upR,oM,S9];rw [U8 h1]
   constructor
   ·intro hall;apply Y7;intro i;by_cases h4:i < 4
    ·have a:=(hks i h4).1 (hall i h4);rw [←hlen i h4] at a;have b1:m[i]? =some (m.getD i 0):=by simp [List.getD,hl,h4]
     have b2:(zj6 h)[i]? =some ((zj6 h).getD i 0):=by
      have:(zj6 h).length=4:=rfl;simp [List.getD,this,h4]
     rw [b1,b2,a]
    rw [T5 (by omega),T5 (by have:(zj6 h).length=4:=rfl;omega)]
   rintro rfl s hs4;exact (hks s hs4).2 (hlen s hs4)
  rw [znf,e];have:okS h s=false:=by rw [okS,hu,C2]
  have h2:(List.range 4).all (okS h)=false:=by
   rw [V9];exact ⟨s,H4.2 hs4,by simp [this]⟩
  rw [h2];rfl
theorem ymt {h:Hist} (hs:zaa h=false):zjx h=false:=by rw [zjx,hs];rfl
theorem ybs {h:Hist} {k:Nat} (hk:k < 4) (ho:okS h k=false):zjx h=false:=by
 rw [zjx,show (List.range 4).all (okS h)=false from by rw [V9];exact ⟨k,H4.2 hk,by simp [ho]⟩,C2]
theorem yms {h:Hist} (hs:zaa h=true) (ho:∀j,j < 4→okS h j=true):zjx h=true:=by
 rw [zjx,hs,B9,B7];exact fun j hj=>ho j (H4.1 hj)
theorem zy2 {h:Hist} (la:Lim 3000 h) (k:Nat):(zco h k).length≤90003000:=by
 have:=bdW la h.wants.length (C5 _) k;rwa [spW,C7] at this
theorem yu1 (h:Hist) {k:Nat} (hk:k < 4):([zcs (zco h 0),zcs (zco h 1),zcs (zco h 2),zcs (zco h 3)]:List AV)[k * 1]? =some (zcs (zco h k)):=by
 rcases (by omega:k=0∨k=1∨k=2∨k=3) with rfl|rfl|rfl|rfl <;> rfl
theorem ynq (h:Hist) {k:Nat} (hk:k < 4):([iv (h.ts.map zaq).length,iv (h.ss.map zaq).length,iv (h.os.map zaq).length,iv (h.ps.map zaq).length]:List AV)[k * 1]? =some (iv (nmK h k).length):=by
 rcases (by omega:k=0∨k=1∨k=2∨k=3) with rfl|rfl|rfl|rfl <;> simp [nmK]
theorem yvr {h:Hist} (hm:zfy h=true):∀e∈h.evs,0≤e.t∧e.t < h.ts.length:=by
 intro e he;have hs:zaa h=true:=by unfold zfy at hm;simp only [B5] at hm;exact hm.1
 have:=(zc6 hs).2.1 e he;obtain ⟨_,_,ht,_⟩:=zep this;exact (zcd _ _).1 ht
def ztc (l:List Ev) (t c:Int):Bool:= !(l.all fun e=> !(e.t==t && e.kind==c))
theorem zha (l:List Ev) (t c:Int):ztc l t c=l.any fun e=>e.t==t && e.kind==c:=by
 induction l with
 |nil=>rfl
 |cons e l ih=>
  rw [U5,←ih,ztc,P4,Bool.not_and,Bool.not_not];rfl
def zhn (l:List Ev) (t:Int):Bool:=ztc l t 1
def zsr (l:List Ev) (t:Int):Bool:=l.any fun y=>y.t==t && (y.kind==5||y.kind==6)
def zcp (l:List Ev) (t x:Int):List Ev:=l.filter fun y=>y.kind==2 && y.t==t && y.o==x
def zvv (l:List Ev) (t x:Int):Option Ver:=((zcp l t x).getLast?).map Ev.v
def zfh (l:List Ev) (x:Int) (v:Ver):Bool:=l.any fun y=>y.kind==2 && y.o==x && y.v==v
def u5 (e:Ev):List Seen:=if e.kind=3 then [⟨e.o,e.v⟩] else e.scan
def zbi (rule:Nat) (e:Ev) (l:List Ev):Bool:=
 match rule with
 |1=>zhn l e.t==(e.kind==1)
 |2=>zsr l e.t
 |3=>e.kind==2 && e.v.k !=((zcp l e.t e.o).length:Int)+1
 |4=>(u5 e).any fun s=>decide (s.v.k > 0) && !zfh l s.o s.v
 |5=>(u5 e).any fun s=>match zvv l e.t s.o with|some v=>v !=s.v|none=>false
 |6=> !decide ((e.scan.map Seen.o).Nodup)
 |_=>false
def zdm (rule:Nat) (e:Ev) (l:List Ev):Bool:=
 match rule with
 |1=>zhn l e.t && e.kind==1|| !zhn l e.t && e.kind !=1
 |2=>zsr l e.t
 |3=>e.kind==2 && e.v.k !=((zcp l e.t e.o).length:Int)+1
 |4=>(u5 e).any fun s=> !(s.v.k==0||zfh l s.o s.v)
 |5=>(u5 e).any fun s=>match (zcp l e.t s.o).getLast? with|some y=>y.v !=s.v|none=>false
 |6=>(List.range (u5 e).length).any fun i=>((u5 e).take i).any fun p=>some p.o==((u5 e)[i]?).map Seen.o
 |_=>false
theorem ylg (e:Ev) (l:List Ev):zbi 1 e l=zdm 1 e l:=by
 simp only [zbi,zdm];cases zhn l e.t <;> cases h:(e.kind==1) <;> simp_all
theorem yjt {ts:List ByteArray} {v:Ver} (h:zon ts v=true):0≤v.k:=by
 unfold zon at h;split at h
 ·rename_i h0;simp at h0;omega
 simp only [B5,G8] at h;omega
theorem ylf {e:Ev} {l:List Ev} (h:∀s∈u5 e,0≤s.v.k):zbi 4 e l=zdm 4 e l:=by
 simp only [zbi,zdm];rw [K4];simp only [F9,B5,G8,N0,R4,H1];constructor
 ·rintro ⟨s,hs,h0,h1⟩;exact ⟨s,hs,by omega,h1⟩
 rintro ⟨s,hs,h0,h1⟩;exact ⟨s,hs,by have:=h s hs;omega,h1⟩
theorem yle (e:Ev) (l:List Ev):zbi 5 e l=zdm 5 e l:=by
 simp only [zbi,zdm,zvv];congr 1;funext s;cases (zcp l e.t s.o).getLast? <;> rfl
theorem yo1 (l:List Seen):((List.range l.length).any fun i=>(l.take i).any fun p=>some p.o==(l[i]?).map Seen.o)= !decide ((l.map Seen.o).Nodup):=by
 rw [K4];simp only [F9,H4,N0,M3,K7];rw [show (l.map Seen.o).Nodup ↔ _ from J6];constructor
 ·rintro ⟨i,hi,p,hp,he⟩ hn;obtain ⟨j,hj,rfl⟩:=I8.1 hp;rw [D5] at hj;refine hn j i (by simp;omega) (by simpa using hi) (by omega) ?_;rw [B4 hi,Q0] at he;rw [H7,H7];exact B6 he
 intro hn;simp only [Classical.not_forall] at hn;obtain ⟨i,j,hi,hj,hij,he⟩:=hn;have hi':=hi;have hj':=hj;rw [oM] at hi' hj';have he:=Classical.not_not.1 he;rw [H7,H7] at he;refine ⟨j,hj',l[i],?_,?_⟩
 ·rw [L3];exact ⟨i,by omega,rfl⟩
 rw [B4 hj',K8,he]
theorem yld {e:Ev} {l:List Ev} (h:e.kind=3→e.scan= []):zbi 6 e l=zdm 6 e l:=by
 simp only [zbi,zdm];rw [yo1];unfold u5;split
 ·rename_i h2;rw [h h2];rfl
 rfl
theorem yd7 {h:Hist} {e:Ev} (he:zcj h e=true):(∀s∈u5 e,0≤s.v.k)∧(e.kind=3→e.scan= []):=by
 obtain ⟨h1,h7,ht,hc,hq⟩:=zep he;refine ⟨fun s hs=>?_,fun h3=>?_⟩
 ·unfold u5 at hs;split at hs
  ·rename_i h3;rw [D7] at hs;subst hs;rw [zhf,A0 (by omega),A0 (by omega),A6 h3] at hc;simp only [ze3,B5] at hc;exact yjt hc.2
  rename_i h3;by_cases h4:e.kind=4
  ·rw [zhf,A0 (by omega),A0 (by omega),A0 h3,A6 h4] at hc;simp only [zdh,B5,B7] at hc;have:=hc.2 s hs;simp only [zgk,B5] at this;exact yjt this.2
  have:e.scan= []:=by
   rw [←hq];simp only [zhf];repeat' split
   all_goals first|rfl|omega
  rw [this] at hs;cases hs
 rw [←hq];simp only [zhf,A0 (show ¬e.kind=1 by omega),A0 (show ¬e.kind=2 by omega),A6 h3]
def srt (l:List Int):List Int:=l.mergeSort (fun x y=>decide (x≤y))
def zb4:List Int→List Int
 | []=> []
 | [x]=> [x]
 |x::y::r=>if x=y then zb4 (y::r) else x::zb4 (y::r)
theorem zgt (z:Int):∀l:List Int,z∈zb4 l ↔ z∈l
 | []=>Iff.rfl
 | [x]=>Iff.rfl
 |x::y::r=>by
  rw [zb4];split
  ·rename_i h;subst h;rw [zgt z (x::r)];simp
  rw [C9,zgt z (y::r),C9 (a:=z) (b:=x)]
theorem zkb:∀l:List Int,l.Pairwise (· ≤ ·)→(zb4 l).Pairwise (· < ·)
 | [],_=> .nil
 | [x],_=>by simp [zb4]
 |x::y::r,h=>by
  rw [zb4];obtain ⟨h1,h2⟩:=L5.1 h;split
  ·exact zkb _ h2
  rename_i hne;refine L5.2 ⟨fun z hz=>?_,zkb _ h2⟩;rw [zgt] at hz;obtain ⟨h3,h4⟩:=L5.1 h2;have hxy:=h1 y (by simp);rcases C9.1 hz with rfl|hz
  ·omega
  have:=h3 z hz;omega
theorem znu:∀l:List Int,(zb4 l).length≤l.length
 | []=>by simp [zb4]
 | [x]=>by simp [zb4]
 |x::y::r=>by
  rw [zb4];have:=znu (y::r);split <;> simp only [E6] at * <;> omega
theorem zpg:∀l:List Int,(zb4 l).length=l.length→zb4 l=l
 | [],_=>rfl
 | [x],_=>rfl
 |x::y::r,h=>by
  rw [zb4] at h ⊢;have hl:=znu (y::r);split at h
  ·simp only [E6] at h hl;omega
  rename_i hne;rw [A0 hne,zpg (y::r) (by simpa using h)]
theorem ze8 (l:List Int):(srt l).Perm l:=List.mergeSort_perm _ _
theorem ybb (l:List Int):(srt l).Pairwise (· ≤ ·):=by
 have:=List.pairwise_mergeSort (le:=fun x y:Int=>decide (x≤y)) (by intro a b c;simp;omega) (by intro a b;simp;omega) l;exact this.imp (by simp)
theorem zl9 {l:List Int} (h:l.Pairwise (· < ·)):l.Nodup:=h.imp (fun h e=>by omega)
theorem znt:∀l:List Int,l.Nodup→zb4 l=l
 | [],_=>rfl
 | [x],_=>rfl
 |x::y::r,h=>by
  obtain ⟨h1,h2⟩:=K9.1 h;rw [zb4,A0 (by rintro rfl;exact h1 (by simp)),znt _ h2]
theorem zzv (l:List Int):(zb4 (srt l)).length=l.length ↔ l.Nodup:=by
 have hl:(srt l).length=l.length:=(ze8 l).length_eq;constructor
 ·intro h;have e:=zpg (srt l) (by rw [h,hl]);have:=zl9 (zkb _ (ybb l));rw [e] at this;exact (ze8 l).nodup_iff.1 this
 intro h;rw [znt _ ((ze8 l).nodup_iff.2 h),hl]
theorem yrx:∀(l m:List Int),l.Pairwise (· < ·)→m.Pairwise (· < ·)→(∀z,z∈l ↔ z∈m)→l=m:=by
 intro l m hl hm h;refine List.Perm.eq_of_pairwise (le:=(· ≤ ·)) (fun a b _ _ h1 h2=>by omega) (hl.imp (fun h=>by omega)) (hm.imp (fun h=>by omega)) ?_;exact (Y6 (zl9 hl) (zl9 hm)).2 h
def za0 (l:List Ev) (x:Int):List Int:=zb4 (srt ((l.filter fun e=>e.kind==2 && e.o==x && l.any fun y=>y.t==e.t && y.kind==5).map Ev.t))
def zbf (h:Hist) (x:Int):List Int:=((upR h.ts.length).filter fun t=>(h.evs.any fun e=>e.kind==2 && e.t==t && e.o==x) && ztc h.evs t 5)
theorem zyw {h:Hist} (ht:∀e∈h.evs,0≤e.t∧e.t < h.ts.length) (x:Int) (hu:(upR h.ts.length).Pairwise (· < ·)) (hm:∀z,z∈upR h.ts.length ↔ 0≤z∧z < h.ts.length):za0 h.evs x=zbf h x:=by
 refine yrx _ _ (zkb _ (ybb _)) (hu.filter _) fun z=>?_;rw [za0,zgt,(ze8 _).mem_iff];simp only [zbf,zha,H2,L1,hm,B5,F9,K7];constructor
 ·rintro ⟨e,⟨he,⟨h2,h3⟩,y,hy,h4,h5⟩,rfl⟩;exact ⟨ht e he,⟨e,he,⟨h2,rfl⟩,h3⟩,y,hy,h4,h5⟩
 rintro ⟨_,⟨e,he,⟨h2,rfl⟩,h3⟩,y,hy,h4,h5⟩;exact ⟨e,⟨he,⟨h2,h3⟩,y,hy,h4,h5⟩,rfl⟩
def zvj (ts f:List Int):Bool:=decide ((zb4 (srt ts)).length=ts.length) && !ts.any fun t=> !f.contains t
def zgz (ts f:List Int):Bool:=decide ts.Nodup && ts.all fun t=>f.contains t
theorem znb (ts f:List Int):zvj ts f=zgz ts f:=by
 unfold zvj zgz;rw [K4];simp only [B5,G8,zzv,B7,N0,L7,Z8,V5,Bool.not_eq_false]
theorem zl4:∀(ts f:List Int),ts.Nodup→(∀t∈ts,t∈f)→ts.length≤f.length
 | [],f,_,_=>by simp
 |t::r,f,hn,hs=>by
  obtain ⟨h1,h2⟩:=K9.1 hn;have ht:=hs t (by simp);have:=zl4 r (f.erase t) h2 (fun z hz=>(R3 (by rintro rfl;exact h1 hz)).2 (hs z (by simp [hz])));rw [P8 ht] at this;have:=List.length_pos_of_mem ht;rw [E6];omega
theorem zw7 {ts f:List Int} (hf:f.Nodup) (h:zgz ts f=true):decide (ts.length=f.length)=zgz f ts:=by
 simp only [zgz,B5,G8,B7,O3] at h;rw [K4];simp only [zgz,B5,G8,B7,O3];constructor
 ·intro e;refine ⟨hf,fun t ht=>H5 fun hn=>?_⟩;have:=zl4 (t::ts) f (K9.2 ⟨hn,h.1⟩) (fun z hz=>by rcases C9.1 hz with rfl|hz;exact ht;exact h.2 z hz);rw [E6] at this;omega
 rintro ⟨_,hs⟩;exact Nat.le_antisymm (zl4 _ _ h.1 h.2) (zl4 _ _ hf hs)
theorem ylo (n:Nat) (z:Int):z∈upR n ↔ 0≤z∧z < n:=by
 simp only [upR,H2,H4];constructor
 ·rintro ⟨i,hi,rfl⟩;omega
 rintro ⟨h0,h1⟩;exact ⟨z.toNat,by omega,by omega⟩
theorem yjv (n:Nat):(upR n).Pairwise (· < ·):=by
 rw [upR,Y9];exact List.pairwise_lt_range.imp (fun h=>by omega)
theorem zfg {h:Hist} (hm:zfy h=true) (x:Int):za0 h.evs x=zbf h x:=
 zyw (yvr hm) x (yjv _) (ylo _)
theorem zgw (l:List Ev) (x:Int):(za0 l x).Nodup:=zl9 (zkb _ (ybb _))
def zhy (h:Hist) (i:Nat) (r:Ord):Bool:=((h.ords.take i).any fun p=>p.o==r.o)|| !zvj r.ts (za0 h.evs r.o)|| !decide (r.ts.length=(za0 h.evs r.o).length)
def zj0 (h:Hist) (i:Nat) (r:Ord):Bool:=((h.ords.take i).any fun p=>p.o==r.o)|| !zgz r.ts (zbf h r.o)|| !zgz (zbf h r.o) r.ts
theorem yhk {h:Hist} (hm:zfy h=true) (i:Nat) (r:Ord):zhy h i r=zj0 h i r:=by
 unfold zhy zj0;rw [znb,←zfg hm];cases hs:zgz r.ts (za0 h.evs r.o) with
 |false=>simp
 |true=>rw [zw7 (zgw _ _) hs]
def zqa (h:Hist) (x:Int):Bool:=decide (1 < (za0 h.evs x).length) && !h.ords.any fun r=>r.o==x
def zof (h:Hist) (x:Int):Bool:= !(h.ords.any fun r=>r.o==x) && decide (2≤(zbf h x).length)
theorem ynm {h:Hist} (hm:zfy h=true) (x:Int):zqa h x=zof h x:=by
 unfold zqa zof;rw [←zfg hm,U6];rfl
def zlg (h:Hist) (i:Nat) (r:Mat):Bool:=((h.mats.take i).any fun p=>p.p==r.p && p.o==r.o)|| !zvj r.ts (za0 h.evs r.o)
def zj4 (h:Hist) (i:Nat) (r:Mat):Bool:=((h.mats.take i).any fun p=>p.p==r.p && p.o==r.o)|| !zgz r.ts (zbf h r.o)
theorem yhw {h:Hist} (hm:zfy h=true) (i:Nat) (r:Mat):zlg h i r=zj4 h i r:=by
 unfold zlg zj4;rw [znb,←zfg hm]
def zi5 (h:Hist) (i:Nat) (r:Wan):Bool:=((h.wants.take i).any fun p=>p.s==r.s)|| !h.evs.any fun e=>e.kind==1 && e.s==r.s
def zdl {α:Type} (w:Nat→α→Bool):Nat→List α→Option Nat
 |_,[]=>none
 |i,x::r=>if w i x then some i else zdl w (i+1) r
theorem zgo {α:Type} {w v:Nat→α→Bool}:∀(l:List α) (i:Nat),(∀x∈l,∀i,w i x=v i x)→zdl w i l=zdl v i l
 | [],_,_=>rfl
 |x::r,i,h=>by rw [zdl,zdl,h x (by simp),zgo r (i+1) (fun y hy=>h y (by simp [hy]))]
def zc1 (h:Hist) (rule:Nat):Option Nat:=
 match rule with
 |7=>zdl (zhy h) 0 h.ords
 |8=>zdl (fun x _=>zqa h (x:Int)) 0 h.os
 |9=>zdl (zlg h) 0 h.mats
 |10=>zdl (zi5 h) 0 h.wants
 |r=>zdl (fun i e=>zbi r e (h.evs.take i)) 0 h.evs
def ze5 (h:Hist) (rule:Nat):Option Nat:=
 match rule with
 |7=>zdl (zj0 h) 0 h.ords
 |8=>zdl (fun x _=>zof h (x:Int)) 0 h.os
 |9=>zdl (zj4 h) 0 h.mats
 |10=>zdl (zi5 h) 0 h.wants
 |r=>zdl (fun i e=>zdm r e (h.evs.take i)) 0 h.evs
theorem yfu {h:Hist} {e:Ev} (he:zcj h e=true) (l:List Ev):∀r,zbi r e l=zdm r e l
 |0=>rfl
 |1=>ylg e l
 |2=>rfl
 |3=>rfl
 |4=>ylf (yd7 he).1
 |5=>yle e l
 |6=>yld (yd7 he).2
 |_+7=>rfl
theorem yhg {h:Hist} (hm:zfy h=true) (rule:Nat):zc1 h rule=ze5 h rule:=by
 have hs:zaa h=true:=by unfold zfy at hm;simp only [B5] at hm;exact hm.1
 have hE:=(zc6 hs).2.1;unfold zc1 ze5;split
 ·exact zgo _ _ fun r _ i=>yhk hm i r
 ·exact zgo _ _ fun r _ i=>ynm hm _
 ·exact zgo _ _ fun r _ i=>yhw hm i r
 ·rfl
 exact zgo _ _ fun e he i=>yfu (hE e he) _ _
def za5 (p:Nat→Option Nat):List Nat→Option (Nat×Nat)
 | []=>none
 |r::l=>match p r with|some i=>some (r,i)|none=>za5 p l
def rules10:List Nat:= [1,2,3,4,5,6,7,8,9,10]
theorem yiv {h:Hist} (hm:zfy h=true):za5 (zc1 h) rules10=za5 (ze5 h) rules10:=by
 rw [show zc1 h=ze5 h from funext (yhg hm)]
theorem zk0 {p:Nat→Option Nat}:∀{l:List Nat},za5 p l=none→∀q∈l,p q=none
 | [],_,q,hq=>by cases hq
 |a::l,h,q,hq=>by
  rw [za5] at h;cases ha:p a with
  |some j=>rw [ha] at h;cases h
  |none=>rw [ha] at h;rcases C9.1 hq with rfl|hq;exact ha;exact zk0 h q hq
theorem zgn {α:Type} {w:Nat→α→Bool}:∀(l:List α) (i:Nat),zdl w i l=none ↔ ∀j,(h:j < l.length)→w (i+j) l[j]=false
 | [],i=>by simp [zdl]
 |x::r,i=>by
  rw [zdl];constructor
  ·intro h j hj;split at h
   ·cases h
   rename_i h0;cases j with
   |zero=>simpa using h0
   |succ j=>
    have:=(zgn r (i+1)).1 h j (by simpa using hj);rw [show i+(j+1)=i+1+j by omega];exact this
  intro h;have h0:w i x=false:=h 0 (Nat.zero_lt_succ _);rw [A0 (by rw [h0];decide)];refine (zgn r (i+1)).2 fun j hj=>?_;have:=h (j+1) (by simpa using hj);rw [show i+1+j=i+(j+1) by omega];exact this
theorem ye0 (l:List Ev) (t:Int):zhn l t=zyl l t:=by rw [zhn,zha,zyl]
theorem zoz {k:Nat} (h1:1≤k) (h2:k≤10):rules10.drop (k - 1)=k::rules10.drop k:=by
 have:∀k,k < 11→1≤k→rules10.drop (k - 1)=k::rules10.drop k:=by decide
 exact this k (by omega) h1
theorem zpa {p:Nat→Option Nat} {k:Nat} (h1:1≤k) (h2:k≤10) (hz:za5 p rules10=za5 p (rules10.drop (k - 1))) (hp:p k=none):za5 p rules10=za5 p (rules10.drop (k+1 - 1)):=by
 rw [hz,zoz h1 h2,za5,hp];rfl
theorem ztg {p:Nat→Option Nat} {k i:Nat} (h1:1≤k) (h2:k≤10) (hz:za5 p rules10=za5 p (rules10.drop (k - 1))) (hp:p k=some i):za5 p rules10=some (k,i):=by
 rw [hz,zoz h1 h2,za5,hp]
theorem zpb {p:Nat→Option Nat} {k:Nat} (h1:11≤k) (h2:k≤11) (hz:za5 p rules10=za5 p (rules10.drop (k - 1))):za5 p rules10=none:=by
 obtain rfl:k=11:=by omega
 rw [hz];rfl
def zlk (h:Hist):Option (Nat×Nat):=za5 (zc1 h) rules10
def ywf:Option (Nat×Nat)→List AV
 |some (r,i)=> [iv r,iv i]
 |none=> [iv 0,iv 0]
def zb6 (h:Hist):Bool:=zfy h && (zlk h).isNone
def zij (h:Hist):AV:=if zfy h=true then .tup [.agg (ywf (zlk h)),bv (zlk h).isSome,iv 0] else .tup [.agg [iv 0,iv 0],bv false,iv 210]
def yxk:Option Nat→Int
 |some n=>n
 |none=>0
theorem yer (o:Option (Nat×Nat)):∃i j,ywf o= [iv i,iv j]:=by
 cases o with
 |none=>exact ⟨_,_,rfl⟩
 |some p=>exact ⟨_,_,rfl⟩
theorem zth (h:Hist):∃i j b e,zij h= .tup [.agg [iv i,iv j],bv b,iv e]∧zb6 h=((e==0) && !b):=by
 unfold zij zb6;obtain ⟨i,j,hb⟩:=yer (zlk h);by_cases hm:zfy h=true
 ·rw [A6 hm,hm,hb];refine ⟨_,_,_,_,rfl,?_⟩;cases zlk h <;> rfl
 rw [A0 hm,M2.2 hm];exact ⟨_,_,_,_,rfl,rfl⟩
def zq6 (e:Ev):Ev:={e with scan:=e.scan.take 12}
def zwc (r:Ord):Ord:={r with ts:=r.ts.take 14}
def yaa (r:Mat):Mat:={r with ts:=r.ts.take 14}
def u2 (h:Hist):Hist:=⟨zn4 12 h.ts,zn4 8 h.ss,zn4 10 h.os,zn4 6 h.ps,(h.evs.take 70).map zq6,(h.ords.take 14).map zwc,(h.mats.take 20).map yaa,h.wants.take 12⟩
theorem zap (h:Hist):Lim 100 (u2 h):=by
 refine ⟨?_,?_,?_,?_,?_,?_,?_,?_,?_,?_,?_⟩
 iterate 4 (· simp only [u2,zn4,oM,D5];omega)
 iterate 4 (· simp only [u2,oM,D5];omega)
 ·intro e he;simp only [u2,H2] at he;obtain ⟨e',_,rfl⟩:=he;simp only [zq6,D5];omega
 ·intro e he;simp only [u2,H2] at he;obtain ⟨e',_,rfl⟩:=he;simp only [zwc,D5];omega
 intro e he;simp only [u2,H2] at he;obtain ⟨e',_,rfl⟩:=he;simp only [yaa,D5];omega
theorem zgi {h:Hist} (hs:zb6 h=true):zfy h=true∧za5 (zc1 h) rules10=none:=by
 unfold zb6 at hs;simp only [B5,V1] at hs;exact hs
section
variable (ρ:Nat→Int→Int)
end
section
variable {σ:Type} {f:σ→Nat→Int→Int×σ} {ρ:Nat→Int→Int}
variable (f) in
def after:σ→List (Nat×Int)→σ
 |s,[]=>s
 |s,x::l=>after (f s x.1 x.2).2 l
end
section
variable (ρ:Nat→Int→Int)
end
structure Cnt (k:ypz) (m:List Int):Prop where
 k4:k.length=4
 m4:m.length=4
 eq:∀s,s < 4→m.getD s 0=(k.getD s []).length
def yq1 (m:Nat):List Int:=(List.range m).map Int.ofNat
structure Rng (k:ypz) (m:List Int):Prop where
 cnt:Cnt k m
 rg:∀s,s < 4→k.getD s []=yq1 (k.getD s []).length
section
variable {h:Hist} (hs:zaa h=true)
include hs
end
section
variable {h n:Hist} {ρ:Nat→Int→Int}
end
theorem ye2 (n:Int):∀(l:List Int) (i:Nat),atI n i l=match zkr n i l with|some j=>(j:Int)|none=> -1
 | [],i=>rfl
 |x::r,i=>by
  unfold atI zkr;by_cases h:x=n
  ·rw [A6 h,A6 h]
  rw [A0 h,A0 h,ye2 n r (i+1)]
theorem za7 {α:Type} {q:α→Bool} {l:List α} {k:Nat} (hk:k < l.length):(l.take (k+1)).any q=((l.take k).any q||q l[k]):=by
 rw [A5 hk,List.any_append];simp
theorem zp4 {n:Int}:∀(l:List Int) (i:Nat),zkr n i l=none ↔ n ∉ l
 | [],i=>by simp [zkr]
 |x::r,i=>by
  unfold zkr;split
  ·rename_i e;subst e;simp
  rename_i e;rw [zp4 r (i+1)];simp [M8 e]
theorem yj7 {n:Int}:∀(l:List Int) (i k:Nat),(h:k < l.length)→l[k]=n→n ∉ l.take k→zkr n i l=some (i+k)
 | [],i,k,h,_,_=>absurd h (by simp)
 |x::r,i,0,h,e,_=>by unfold zkr;rw [A6 (by simpa using e)];rfl
 |x::r,i,k+1,h,e,hn=>by
  rw [U9,C9,W8] at hn;unfold zkr;rw [A0 (M8 hn.1),yj7 r (i+1) k (by simpa using h) (by simpa using e) hn.2];congr 1;omega
theorem yj6 {n:Int}:∀(l:List Int) (i k:Nat),n∈l.take k→∃j,zkr n i l=some (i+j)∧j < k
 | [],i,k,h=>by simp at h
 |x::r,i,0,h=>by simp at h
 |x::r,i,k+1,h=>by
  rw [U9,C9] at h;unfold zkr;by_cases e:x=n
  ·exact ⟨0,by rw [A6 e];rfl,by omega⟩
  obtain ⟨j,h1,h2⟩:=yj6 r (i+1) k (h.resolve_left (M8 e));exact ⟨j+1,by rw [A0 e,h1];congr 1;omega,by omega⟩
theorem yk1 (n:Int) (l:List Int):decide (atI n 0 l < 0)= !l.contains n:=by
 rw [ye2];cases h:zkr n 0 l with
 |none=>have:=(zp4 l 0).1 h;simp [this]
 |some j=>
  have:n∈l:=by
   apply H5;intro q;rw [(zp4 l 0).2 q] at h;cases h
  simp [this]
theorem yk2 {l:List Int} {k:Nat} (h:k < l.length):(atI l[k] 0 l !=(k:Int))=(l.take k).contains l[k]:=by
 rw [ye2];by_cases hm:l[k]∈l.take k
 ·obtain ⟨j,h1,h2⟩:=yj6 l 0 k hm;rw [h1,O3.2 hm];simp only [bne_iff_ne,ne_eq];omega
 rw [yj7 l 0 k h rfl hm];have:(l.take k).contains l[k]=false:=by rw [M2];intro q;exact hm (O3.1 q)
 rw [this];simp
def yjr (ts f:List Int) (k:Nat):Prop:=∀j,(h:j < ts.length)→j < k→f.contains ts[j]=true∧(ts.take j).contains ts[j]=false
theorem yl5 {ts f:List Int} {k:Nat} (h:k < ts.length) (z:yjr ts f k) (a:decide (atI ts[k] 0 f < 0)=false) (b:(atI ts[k] 0 ts !=(k:Int))=false):yjr ts f (k+1):=by
 intro j hj hk;by_cases e:j < k
 ·exact z j hj e
 obtain rfl:j=k:=by omega
 rw [yk1] at a;rw [yk2 h] at b;exact ⟨by simpa using a,b⟩
theorem zvl {l:List Int} (h:∀j,(hj:j < l.length)→l[j] ∉ l.take j):l.Nodup:=by
 rw [List.Nodup,J6];intro i j hi hj hij e;exact h j hj (by rw [←e];exact I8.2 ⟨i,by simp;omega,by simp⟩)
theorem yqi {ts f:List Int} (z:yjr ts f ts.length):zgz ts f=true:=by
 rw [zgz,B5,G8,B7];refine ⟨zvl fun j hj hm=>?_,fun t ht=>?_⟩
 ·have:=(z j hj hj).2;rw [O3.2 hm] at this;cases this
 obtain ⟨j,hj,rfl⟩:=I8.1 ht;exact (z j hj hj).1
theorem yj1 {ts f:List Int} {k:Nat} (h:k < ts.length) (a:decide (atI ts[k] 0 f < 0)=true∨(atI ts[k] 0 ts !=(k:Int))=true):zgz ts f=false:=by
 rw [yk1,yk2 h] at a;rw [M2];intro q;rw [zgz,B5,G8,B7] at q;rcases a with a|a
 ·have:=q.2 _ (D0 h);rw [this] at a;cases a
 have hm:=O3.1 a;obtain ⟨i,hi,e⟩:=I8.1 hm;rw [D5] at hi;rw [Q0] at e;have:=(J6.1 q.1) i k (by omega) h (by omega);exact this e
def zbw (t x:Int) (e:Ev):Bool:=e.kind==2 && e.t==t && e.o==x
def zdv (h:Hist) (x:Int) (k:Nat):List Int:=(upR k).filter fun t=>h.evs.any (zbw t x) && ztc h.evs t 5
theorem ya0 (k:Nat):upR (k+1)=upR k++ [(k:Int)]:=by simp [upR,S3]
theorem zki {h:Hist} {x:Int} {k:Nat} (a:h.evs.any (zbw k x)=true) (b:ztc h.evs k 5=true):zdv h x (k+1)=zdv h x k++ [(k:Int)]:=by
 rw [zdv,ya0,K5];simp [zdv,a,b]
theorem zkj {h:Hist} {x:Int} {k:Nat} (a:(h.evs.any (zbw k x) && ztc h.evs k 5)=false):zdv h x (k+1)=zdv h x k:=by
 rw [zdv,ya0,K5];simp only [zdv,I0,a];simp
theorem zrw (h:Hist) (x:Int):zdv h x h.ts.length=zbf h x:=rfl
theorem zk8 (h:Hist) (x:Int) (k:Nat):(zdv h x k).length≤k:=by
 have:(zdv h x k).length≤(upR k).length:=K6 _ _;simpa [upR] using this
theorem ze7 {α:Type} (q:α→Bool):∀l:List α,l.any q= !(l.all fun x=> !q x)
 | []=>rfl
 |x::r=>by rw [U5,P4,ze7 q r];cases q x <;> rfl
section
variable {h:Hist} {i:Nat}
theorem yhl {r:Ord} (a:(h.ords.take i).all (fun p=> !(p.o==r.o))=false):zj0 h i r=true:=by
 rw [zj0,ze7,a];rfl
theorem zxm {r:Ord} (a:(h.ords.take i).all (fun p=> !(p.o==r.o))=true):zj0 h i r=(!zgz r.ts (zbf h r.o)|| !zgz (zbf h r.o) r.ts):=by
 rw [zj0,ze7,a];rfl
theorem ynn {x:Int} (a:h.ords.all (fun p=> !(p.o==x))=false):zof h x=false:=by
 rw [zof,ze7,a];rfl
theorem yno {x:Int} (a:h.ords.all (fun p=> !(p.o==x))=true):zof h x=decide (2≤(zbf h x).length):=by
 rw [zof,ze7,a];simp
theorem yhx {r:Mat} (a:(h.mats.take i).all (fun p=> !(p.p==r.p && p.o==r.o))=false):zj4 h i r=true:=by
 rw [zj4,ze7,a];rfl
theorem yhy {r:Mat} (a:(h.mats.take i).all (fun p=> !(p.p==r.p && p.o==r.o))=true):zj4 h i r= !zgz r.ts (zbf h r.o):=by
 rw [zj4,ze7,a];rfl
theorem ylk {r:Wan} (a:(h.wants.take i).all (fun p=> !(p.s==r.s))=false):zi5 h i r=true:=by
 rw [zi5,ze7,a];rfl
theorem yaw {r:Wan} (a:(h.wants.take i).all (fun p=> !(p.s==r.s))=true) {b:Bool} (c:h.evs.all (fun e=> !(e.kind==1 && e.s==r.s))=b):zi5 h i r=b:=by
 rw [zi5,ze7,a,ze7,c];simp
end
theorem zgx (h:Hist) (x:Int):(zbf h x).length≤h.ts.length:=zk8 h x _
section
variable {l:List Ev} {t x:Int} {k:Nat}
theorem zpo (h:k < l.length) (a:(l[k].kind==2 && l[k].t==t && l[k].o==x)=true):zcp (l.take (k+1)) t x=zcp (l.take k) t x++ [l[k]]:=by
 rw [zcp,A5 h,K5,zcp,I0,A6 a];rfl
theorem zpp (h:k < l.length) (a:(l[k].kind==2 && l[k].t==t && l[k].o==x)=false):zcp (l.take (k+1)) t x=zcp (l.take k) t x:=by
 rw [zcp,A5 h,K5,zcp,I0,A0 (by rw [a];decide)];simp
theorem yft (l:List Ev) (t x:Int) (k:Nat):(zcp (l.take k) t x).length≤l.length:=by
 have:(zcp (l.take k) t x).length≤(l.take k).length:=K6 _ _;rw [D5] at this;omega
end
def ybn (r:Nat) (e:Ev) (l:List Ev) (i:Nat) (s:Seen):Bool:=
 match r with
 |4=> !(s.v.k==0||zfh l s.o s.v)
 |5=>match (zcp l e.t s.o).getLast? with|some y=>y.v !=s.v|none=>false
 |6=>((u5 e).take i).any fun p=>p.o==s.o
 |_=>false
def OkS (r:Nat) (e:Ev) (l:List Ev) (k:Nat):Prop:=∀i,(h:i < (u5 e).length)→i < k→ybn r e l i (u5 e)[i]=false
theorem ycm {r:Nat} {e:Ev} {l:List Ev} {k:Nat} (h:k < (u5 e).length) (z:OkS r e l k) (a:ybn r e l k (u5 e)[k]=false):OkS r e l (k+1):=by
 intro i hi hk;by_cases c:i < k
 ·exact z i hi c
 obtain rfl:i=k:=by omega
 exact a
theorem yk7 {α:Type} {q:α→Bool} {l:List α} {k:Nat} (h:k < l.length) (a:q l[k]=true):l.any q=true:=F9.2 ⟨_,D0 h,a⟩
theorem zpq {r:Nat} {e:Ev} {l:List Ev} {k:Nat} (hr:4≤r∧r≤6) (h:k < (u5 e).length) (a:ybn r e l k (u5 e)[k]=true):zdm r e l=true:=by
 obtain ⟨h4,h6⟩:=hr;match r,h4,h6 with
 |4,_,_=>exact yk7 h a
 |5,_,_=>exact yk7 h a
 |6,_,_=>
  simp only [ybn] at a;simp only [zdm];refine F9.2 ⟨k,H4.2 h,?_⟩;simpa [B4 h] using a
theorem yfv {r:Nat} {e:Ev} {l:List Ev} (hr:4≤r∧r≤6) (z:OkS r e l (u5 e).length):zdm r e l=false:=by
 obtain ⟨h4,h6⟩:=hr;match r,h4,h6 with
 |4,_,_=>
  simp only [zdm];rw [L7];intro s hs;obtain ⟨i,hi,rfl⟩:=I8.1 hs;have:=z i hi hi;simp only [ybn] at this;rw [this];decide
 |5,_,_=>
  simp only [zdm];rw [L7];intro s hs;obtain ⟨i,hi,rfl⟩:=I8.1 hs;have:=z i hi hi;simp only [ybn] at this;intro q;exact absurd (q.symm.trans this) (by decide)
 |6,_,_=>
  simp only [zdm];rw [L7];intro i hi;rw [H4] at hi;have:=z i hi hi;simp only [ybn] at this;rw [B4 hi];rw [Z8];simpa using this
theorem zcz (a b:Ver):([a.t,a.k]== [b.t,b.k])=(a==b):=by
 cases a;cases b;rw [K4];simp
theorem zxv {L:List Ev} (h:decide (((L.map evR).length:Int) > 0)=true):∃w,L.getLast? =some w∧(L.map evR)[(((L.map evR).length:Int) - 1).toNat]? =some (evR w)∧0≤((L.map evR).length:Int) - 1:=by
 have h0:0 < L.length:=by have:=h;simp at this;exact this
 refine ⟨L[L.length - 1],?_,?_,?_⟩
 ·rw [Z1,B4 (by omega)]
 ·rw [oM,show ((L.length:Int) - 1).toNat=L.length - 1 by omega,M1,B4 (by omega)];rfl
 rw [oM];omega
theorem zko {e:Ev} {l:List Ev} {i:Nat} {s:Seen} {w:Ev} (h:(zcp l e.t s.o).getLast? =some w):ybn 5 e l i s=(w.v !=s.v):=by simp only [ybn];rw [h]
theorem zmx {e:Ev} {l:List Ev} {i:Nat} {s:Seen} (h:decide ((((zcp l e.t s.o).map evR).length:Int) > 0)=false):ybn 5 e l i s=false:=by
 have:zcp l e.t s.o= []:=by simpa using h
 simp only [ybn];rw [this];rfl
def zg9 (h:Hist) (rl:Nat):Nat:=
 match rl with
 |7=>h.ords.length
 |8=>h.os.length
 |9=>h.mats.length
 |10=>h.wants.length
 |_=>h.evs.length
def atQ {α:Type} (w:Nat→α→Bool) (i:Nat) (l:List α):Bool:=match l[i]? with|some x=>w i x|none=>false
def zhi (h:Hist) (rl i:Nat):Bool:=
 match rl with
 |7=>atQ (zj0 h) i h.ords
 |8=>atQ (fun x _=>zof h (x:Int)) i h.os
 |9=>atQ (zj4 h) i h.mats
 |10=>atQ (zi5 h) i h.wants
 |r=>atQ (fun i e=>zdm r e (h.evs.take i)) i h.evs
theorem zlo {α:Type} {w:Nat→α→Bool} {i:Nat} {l:List α} (h:i < l.length):atQ w i l=w i l[i]:=by
 rw [atQ,B4 h]
theorem zxe {α:Type} {w:Nat→α→Bool}:∀(l:List α) (k i:Nat) (hi:i < l.length),w (k+i) l[i]=true→(∀j,(hj:j < i)→w (k+j) (l[j]'(by omega))=false)→zdl w k l=some (k+i)
 | [],_,_,hi,_,_=>absurd hi (by simp)
 |x::r,k,0,hi,hb,_=>by rw [zdl,A6 (by simpa using hb)];rfl
 |x::r,k,i+1,hi,hb,hz=>by
  have h0:w k x=false:=hz 0 (by omega)
  rw [zdl,A0 (by rw [h0];decide),zxe r (k+1) i (by simpa using hi) (by rw [show k+1+i=k+(i+1) by omega];exact hb) (fun j hj=>by
   have:=hz (j+1) (by omega);rw [show k+1+j=k+(j+1) by omega];exact this)]
  congr 1;omega
theorem zjw {α:Type} {w:Nat→α→Bool} {l:List α} {i:Nat} (hi:i < l.length) (hb:atQ w i l=true) (hz:∀j,j < i→atQ w j l=false):zdl w 0 l=some i:=by
 rw [zlo hi] at hb;have:=zxe l 0 i hi (by rw [H9];exact hb) (fun j hj=>by have:=hz j hj;rw [zlo (by omega)] at this;rw [H9];exact this);rwa [H9] at this
theorem zhw {α:Type} {w:Nat→α→Bool} {l:List α} (hz:∀j,j < l.length→atQ w j l=false):zdl w 0 l=none:=by
 rw [zgn];intro j hj;have:=hz j hj;rw [zlo hj] at this;rw [H9];exact this
theorem ych {h:Hist} {rl i:Nat} (hi:i < zg9 h rl) (hb:zhi h rl i=true) (hz:∀j,j < i→zhi h rl j=false):ze5 h rl=some i:=by
 unfold zhi at hb hz;unfold zg9 at hi;unfold ze5;split
 ·exact zjw hi hb hz
 ·exact zjw hi hb hz
 ·exact zjw hi hb hz
 ·exact zjw hi hb hz
 rename_i h7 h8 h9 h10;split at hi <;> first|exact absurd rfl h7|exact absurd rfl h8|exact absurd rfl h9|exact absurd rfl h10|skip
 split at hb <;> first|exact absurd rfl h7|exact absurd rfl h8|exact absurd rfl h9|exact absurd rfl h10|skip
 exact zjw hi hb (fun j hj=>by have:=hz j hj;split at this <;> first|exact absurd rfl h7|exact absurd rfl h8|exact absurd rfl h9|exact absurd rfl h10|exact this)
theorem zzu {h:Hist} {rl:Nat} (hz:∀j,j < zg9 h rl→zhi h rl j=false):ze5 h rl=none:=by
 unfold zg9 zhi at hz;unfold ze5;split
 ·exact zhw hz
 ·exact zhw hz
 ·exact zhw hz
 ·exact zhw hz
 rename_i h7 h8 h9 h10;refine zhw fun j hj=>?_;have:=hz j (by split <;> first|exact absurd rfl h7|exact absurd rfl h8|exact absurd rfl h9|exact absurd rfl h10|exact hj);split at this <;> first|exact absurd rfl h7|exact absurd rfl h8|exact absurd rfl h9|exact absurd rfl h10|exact this
theorem ycw {h:Hist} {rl:Nat} (h7:rl≠7) (h8:rl≠8) (h9:rl≠9) (h10:rl≠10):zg9 h rl=h.evs.length:=by
 unfold zg9;split <;> first|exact absurd rfl h7|exact absurd rfl h8|exact absurd rfl h9|exact absurd rfl h10|rfl
theorem yeq {h:Hist} {rl i:Nat} (h7:rl≠7) (h8:rl≠8) (h9:rl≠9) (h10:rl≠10):zhi h rl i=atQ (fun i e=>zdm rl e (h.evs.take i)) i h.evs:=by
 unfold zhi;split <;> first|exact absurd rfl h7|exact absurd rfl h8|exact absurd rfl h9|exact absurd rfl h10|rfl
theorem yc0 (h:Hist):zg9 h 7=(h.ords.map zb7).length:=by rw [oM];rfl
theorem ycz (h:Hist):zg9 h 8=(h.os.map zaq).length:=by rw [oM];rfl
theorem ycy (h:Hist):zg9 h 9=(h.mats.map zck).length:=by rw [oM];rfl
theorem zsy (h:Hist):zg9 h 10=(h.wants.map zar).length:=by rw [oM];rfl
theorem ycx {h:Hist} {rl:Nat} (h7:rl≠7) (h8:rl≠8) (h9:rl≠9) (h10:rl≠10):zg9 h rl=(h.evs.map evR).length:=by rw [oM];exact ycw h7 h8 h9 h10
theorem yh1 {h:Hist} {rl N:Nat} (la:Lim N h):zg9 h rl≤N:=by
 unfold zg9;split
 ·exact la.ords
 ·exact la.os
 ·exact la.mats
 ·exact la.wants
 exact la.evs
def zxj:Option Nat→Int
 |some n=>n
 |none=> -1
theorem ylq {p:Nat→Prop} {k:Nat} (z:∀o,o < k→p o) (h:p k):∀o,o < k+1→p o:=fun o ho=>by
 by_cases e:o < k
 ·exact z o e
 obtain rfl:o=k:=by omega
 exact h
def zmg {α:Type} (f:Nat→Ev→Option α) (l:List Ev):Nat→List α
 |0=> []
 |k+1=>zmg f l k++(match l[k]? with|some e=>(f k e).toList|none=> [])
theorem ydt {α:Type} {f:Nat→Ev→Option α} {l:List Ev} {k:Nat} (h:k < l.length):zmg f l (k+1)=zmg f l k++(f k l[k]).toList:=by
 rw [zmg,B4 h]
theorem zqw {α:Type} (f:Nat→Ev→Option α) (l:List Ev):∀k,(zmg f l k).length≤k
 |0=>by simp [zmg]
 |k+1=>by
  have:=zqw f l k;rw [zmg,D4];have:(match l[k]? with|some e=>(f k e).toList|none=> []).length≤1:=by
   cases l[k]? with
   |none=>simp
   |some e=>simp only [];cases f k e <;> simp
  omega
theorem znl {α:Type} {f:Nat→Ev→Option α} {p:Ev→Bool} {g:Ev→α} (hf:∀k e,f k e=if p e=true then some (g e) else none) (l:List Ev):∀k,k≤l.length→zmg f l k=((l.take k).filter p).map g
 |0,_=>by simp [zmg]
 |k+1,h=>by
  have hk:k < l.length:=h;rw [ydt hk,znl hf l k (by omega),A5 hk,K5,D9,hf];by_cases hp:p l[k]=true
  ·rw [A6 hp,A0b hp];rfl
  rw [A0 hp,A0c hp];rfl
theorem yip {α:Type} {f:Nat→Ev→Option α} {p:Ev→Bool} {g:Ev→α} (hf:∀k e,f k e=if p e=true then some (g e) else none) (l:List Ev):zmg f l l.length=(l.filter p).map g:=by
 rw [znl hf l _ (C5 _),C7]
def zh1 (l:List Ev) (t x:Int):Nat→Option (Ver×Nat)
 |0=>none
 |k+1=>match l[k]? with
  |some e=>if zbw t x e=true then some (e.v,k) else zh1 l t x k
  |none=>zh1 l t x k
theorem zo6 {l:List Ev} {t x:Int}:∀{k:Nat} {v:Ver} {i:Nat},k≤l.length→zh1 l t x k=some (v,i)→∃hi:i < l.length,i < k∧zbw t x l[i]=true∧l[i].v=v∧∀j,(hj:j < l.length)→i < j→j < k→zbw t x l[j]=false
 |0,v,i,_,h=>by cases h
 |k+1,v,i,hl,h=>by
  have hk:k < l.length:=hl;rw [zh1,B4 hk] at h;simp only at h;split at h
  ·rename_i hw;cases h;exact ⟨hk,by omega,hw,rfl,fun j hj h1 h2=>by omega⟩
  rename_i hw;obtain ⟨hi,h1,h2,h3,h4⟩:=zo6 (by omega) h
  exact ⟨hi,by omega,h2,h3,fun j hj h5 h6=>by
   by_cases e:j=k
   ·subst e;simpa using hw
   exact h4 j hj h5 (by omega)⟩
theorem zo7 {l:List Ev} {t x:Int}:∀{k:Nat},k≤l.length→zh1 l t x k=none→∀j,(hj:j < l.length)→j < k→zbw t x l[j]=false
 |0,_,_,j,hj,h=>by omega
 |k+1,hl,h,j,hj,hjk=>by
  have hk:k < l.length:=hl;rw [zh1,B4 hk] at h;simp only at h;split at h
  ·cases h
  rename_i hw;by_cases e:j=k
  ·subst e;simpa using hw
  exact zo7 (by omega) h j hj (by omega)
def zyb (l:List Ev) (t x:Int):Option (Ver×Nat):=zh1 l t x l.length
def yln:Option (Ver×Nat)→Ver
 |some p=>p.1
 |none=>⟨0,0⟩
def atO:Option (Ver×Nat)→Int
 |some p=>p.2
 |none=>0
def zbn (l:List Ev) (s:Int):List Int:=(l.filter fun e=>e.kind==1 && (e.s==s && ztc l e.t 5)).map Ev.t
def ypx (l:List Ev) (x:Int):List Int:=(l.filter fun e=>e.kind==2 && (e.o==x && ztc l e.t 5)).map Ev.t
def zgg (h:Hist) (x:Int):List Int:=match h.ords.find? (fun o=>o.o==x) with|some o=>o.ts|none=>zb4 (ypx h.evs x)
def zls (h:Hist) (x:Int):List Int:=match h.ords.find? (fun o=>o.o==x) with|some o=>o.ts|none=>zbf h x
def v6 (h:Hist):Int:=if zfy h=true then (if zb6 h=true then 0 else 250) else 210
theorem zcb {h:Hist}:v6 h=0 ↔ zb6 h=true:=by
 unfold v6;by_cases hm:zfy h=true
 ·rw [A6 hm];by_cases hs:zb6 h=true
  ·rw [A6 hs];simp [hs]
  rw [A0 hs];simp [hs]
 rw [A0 hm];have:zb6 h=false:=by rw [zb6,M2.2 hm];rfl
 simp [this]
theorem zj9 {α:Type} (p:α→Bool):∀(l:List α) (i:Nat),(match l.find? p with|some x=>∃k,∃hk:k < l.length,zbe p i l=((i+k:Nat):Int)∧l[k]=x∧p x=true|none=>zbe p i l= -1)
 | [],i=>rfl
 |a::r,i=>by
  rw [List.find?_cons];cases ha:p a with
  |true=>exact ⟨0,by simp,by rw [zbe,A6 ha];rfl,rfl,ha⟩
  |false=>
   have:=zj9 p r (i+1);rw [zbe,A0 (by rw [ha];decide)];dsimp only;cases hf:r.find? p with
   |some x=>
    rw [hf] at this;obtain ⟨k,hk,e1,e2,e3⟩:=this;exact ⟨k+1,by simpa using hk,by rw [e1];congr 1;omega,by simpa using e2,e3⟩
   |none=>
    rw [hf] at this;exact this
theorem zot {h:Hist} (hs:zb6 h=true) {q:Nat} (h1:1≤q) (h2:q≤10):zc1 h q=none:=
 zk0 (zgi hs).2 q (by have:∀k,k < 11→1≤k→k∈rules10:=by decide
                      exact this q (by omega) h1)
theorem zne {α:Type} {l:List α} {i j:Nat} (hi:i < l.length) (h:i < j):l[i]∈l.take j:=
 L3.2 ⟨i,by omega,rfl⟩
theorem znv {a:Int}:∀l:List Int,l≠ []→(∀z∈l,z=a)→zb4 l= [a]
 | [],h,_=>absurd rfl h
 | [x],_,h=>by rw [h x (by simp)];rfl
 |x::y::r,_,h=>by
  rw [zb4,A6 (by rw [h x (by simp),h y (by simp)])];exact znv (y::r) (by simp) (fun z hz=>h z (by simp only [C9] at hz ⊢;exact .inr hz))
theorem yek {l:List Int} (h:(zb4 (srt l)).length≤1):zb4 l=zb4 (srt l):=by
 have hm:∀z,z∈zb4 (srt l) ↔ z∈l:=fun z=>by rw [zgt,(ze8 l).mem_iff]
 match hc:zb4 (srt l),h with
 | [],_=>
   have:l= []:=by
    rw [S2];intro z hz;have:=(hm z).2 hz;rw [hc] at this;cases this
   rw [this];rfl
 | [a],_=>
   refine znv l ?_ fun z hz=>?_
   ·rintro rfl;have:=(hm a).1 (by rw [hc];simp);cases this
   have:=(hm z).2 hz;rw [hc] at this;simpa using this
 |a::b::r,h=>simp at h
theorem zli (l:List Ev) (x:Int):zb4 (srt (ypx l x))=za0 l x:=by
 rw [ypx,za0];congr 3;refine List.filter_congr fun e _=>?_;rw [zha,N3]
theorem ycs {h:Hist} (hs:zb6 h=true) {x:Int} (h0:0≤x) (h1:x < h.os.length) (hn:h.ords.find? (fun o=>o.o==x)=none):(za0 h.evs x).length≤1:=by
 have hp:=zot hs (q:=8) (by omega) (by omega);have:=(zgn _ _).1 hp x.toNat (by omega);rw [H9,show ((x.toNat:Nat):Int)=x by omega,zqa] at this;rw [V6] at hn;have ha:h.ords.any (fun r=>r.o==x)=false:=by
  rw [L7];intro o ho;exact hn o ho
 rw [ha] at this;simp at this;exact this
theorem ykj {h:Hist} (hs:zb6 h=true) {x:Int} (h0:0≤x) (h1:x < h.os.length):zgg h x=zls h x:=by
 unfold zgg zls;cases hf:h.ords.find? (fun o=>o.o==x) with
 |some o=>rfl
 |none=>
  have:=ycs hs h0 h1 hf;rw [←zfg (zgi hs).1,←zli,yek (by rw [zli];exact this)]
def zp1 (h:Hist) (x:Int) (v:Ver):Int:=zbe (fun t=>yln (zyb h.evs t x)==v) 0 (zgg h x)
theorem zr6 {h:Hist} (hs:zb6 h=true):zaa h=true:=by
 have:=(zgi hs).1;unfold zfy at this;simp only [B5] at this;exact this.1
theorem ygi {h:Hist} (hs:zb6 h=true):∀e∈h.evs,zcj h e=true:=(zc6 (zr6 hs)).2.1
theorem zul {h:Hist} {e:Ev} (he:zcj h e=true) (h2:e.kind=2):0≤e.o∧e.o < h.os.length∧e.v.t=e.t∧0 < e.v.k:=by
 obtain ⟨_,_,_,hc,_⟩:=zep he;rw [zhf,A0 (by omega),A6 h2] at hc;simp only [zbu,B5,G8,K7,zcd] at hc;exact ⟨hc.1.1.1.1,hc.1.1.1.2,hc.1.2,hc.2⟩
theorem zgh {t x:Int} {e:Ev}:zbw t x e=true ↔ e.kind=2∧e.t=t∧e.o=x:=by
 simp only [zbw,B5,K7,and_assoc]
theorem zuj {l:List Ev} {x z:Int}:z∈za0 l x ↔ (∃e∈l,zbw z x e=true)∧ztc l z 5=true:=by
 rw [za0,zgt,(ze8 _).mem_iff];simp only [H2,L1,B5,K7];constructor
 ·rintro ⟨e,⟨he,⟨h2,h3⟩,h4⟩,rfl⟩;exact ⟨⟨e,he,zgh.2 ⟨h2,rfl,h3⟩⟩,by rw [zha];exact h4⟩
 rintro ⟨⟨e,he,hw⟩,h5⟩;obtain ⟨h2,rfl,h3⟩:=zgh.1 hw;exact ⟨e,⟨he,⟨h2,h3⟩,by rw [←zha];exact h5⟩,rfl⟩
theorem znj {h:Hist} (hs:zb6 h=true) {x:Int} (h0:0≤x) (h1:x < h.os.length):(zgg h x).Nodup∧(zgg h x).length=(za0 h.evs x).length∧∀z,z∈zgg h x ↔ z∈za0 h.evs x:=by
 have hm:=(zgi hs).1;cases hf:h.ords.find? (fun o=>o.o==x) with
 |none=>
  have e:zgg h x=za0 h.evs x:=by
   rw [ykj hs h0 h1,zls,hf,zfg hm]
  rw [e];exact ⟨zgw _ _,rfl,fun _=>Iff.rfl⟩
 |some o=>
  have e:zgg h x=o.ts:=by rw [zgg,hf]
  have:=zj9 (fun o:Ord=>o.o==x) h.ords 0;rw [hf] at this;obtain ⟨k,hk,_,ek,eo⟩:=this;have hp:zdl (zhy h) 0 h.ords=none:=zot hs (q:=7) (by omega) (by omega);have:=(zgn _ _).1 hp k hk;rw [H9,ek,zhy] at this;have ex:o.o=x:=by simpa using eo
  simp only [R4,V5,ex] at this;obtain ⟨⟨_,h2⟩,h3⟩:=this;rw [znb] at h2;have h4:=(zw7 (zgw h.evs x) h2).symm.trans h3;simp only [zgz,B5,G8,B7,O3] at h2 h4;rw [e];exact ⟨h2.1,by simpa using h3,fun z=>⟨h2.2 z,h4.2 z⟩⟩
theorem ys7 {l:List Ev} {t x:Int} (h:∃e∈l,zbw t x e=true):∃v i,zyb l t x=some (v,i):=by
 cases hf:zyb l t x with
 |some p=>exact ⟨p.1,p.2,rfl⟩
 |none=>
  obtain ⟨e,he,hw⟩:=h;obtain ⟨j,hj,rfl⟩:=I8.1 he;have:=zo7 (C5 _) hf j hj hj;rw [hw] at this;cases this
theorem yd3 {h:Hist} (hs:zb6 h=true) {t x:Int} {v:Ver} {i:Nat} (hf:zyb h.evs t x=some (v,i)):∃hi:i < h.evs.length,h.evs[i].v=v∧zbw t x h.evs[i]=true∧v.t=t∧0 < v.k∧∀j,(hj:j < h.evs.length)→i < j→zbw t x h.evs[j]=false:=by
 obtain ⟨hi,_,hw,hv,hn⟩:=zo6 (C5 _) hf;obtain ⟨h2,ht,hx⟩:=zgh.1 hw;obtain ⟨_,_,h3,h4⟩:=zul (ygi hs _ (D0 hi)) h2;exact ⟨hi,hv,hw,by rw [←hv,h3,ht],by rw [←hv];exact h4,fun j hj hij=>hn j hj hij hj⟩
theorem yd5 {α:Type} {p:α→Bool}:∀{l:List α} {k i:Nat} (hk:k < l.length),p l[k]=true→(∀j,(hj:j < k)→p (l[j]'(by omega))=false)→zbe p i l=((i+k:Nat):Int)
 | [],k,i,hk,_,_=>absurd hk (by simp)
 |a::r,0,i,_,h,_=>by rw [zbe,A6 (by simpa using h)];rfl
 |a::r,k+1,i,hk,h,hz=>by
  have h0:p a=false:=hz 0 (by omega);rw [zbe,A0 (by rw [h0];decide),yd5 (k:=k) (i:=i+1) (by simpa using hk) (by simpa using h) (fun j hj=>by have:=hz (j+1) (by omega);simpa using this)];congr 1;omega
end Go.H
namespace Go.Proofs
open Go Go.Ab
open Go.H
theorem nzT {a:Int} (h:(a !=0)=true):a≠0:=by simpa using h
theorem nzF {a:Int} (h:(a !=0)=false):a=0:=by simpa using h
end Go.Proofs
