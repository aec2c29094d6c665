/-
  Part 20 of the proof.
-/
import Derived.Test.YtkpbhdhkdonghaaGreatE11
import Derived.Test.YtkpbhdhkdonghaaGreatE16
set_option linter.all false
namespace Go.Proofs.YtkpbhdhkdonghaaGreat
open Go Go.RowKit
variable {M c most n s:Int} {k:Nat}
structure VM (V M most:Int):Prop where
 val:DX V M=true
 m0:0<=M
 m4:M<=4
 le:V<=most
theorem VM.zero (h:0<=most):VM 0 0 most:=⟨by decide,by decide,by decide,h⟩
theorem VM.next {V:Int} (h:VM V M most) (hm:most<=65536) (c0:0<=c) (c1:c<=255) (ho:EL V M c most=true) (hd:EZ M c=false):VM (D5 V M c) (EM M c) most:=by
 obtain ⟨hv,h0,h4,hl⟩:=h
 have hle:=gW hv (by omega) h0 h4
 simp only [EL,decide_eq_true_eq] at ho
 simp only [EZ,decide_eq_false_iff_not] at hd
 have hc:128<=c:=by
  by_cases h:c < 128
  ·exact (hd ⟨ho.1,h⟩).elim
  ·omega
 rw [D5,EM,if_neg ho.1,if_neg ho.1]
 refine ⟨?_,by omega,by omega,ho.2.1⟩
 have e:M=0\/M=1\/M=2\/M=3:=by omega
 have hx:0<=c % 128/\c % 128 < 128:=by omega
 have hy:c - 128=c % 128:=by omega
 rcases e with rfl|rfl|rfl|rfl
 ·have hV:V=0:=by simpa [DX] using hv
  have hne:c ≠ 128:=fun h=>ho.1 ⟨h,rfl⟩
  simp [DX,vnx,hV];omega
 ·have hv:(1:Int)<=V/\V < 128:=of_decide_eq_true hv
  exact decide_eq_true (show (128:Int)<=vnx V c/\vnx V c < 16384 by rw [vnx];omega)
 ·have hv:(128:Int)<=V/\V < 16384:=of_decide_eq_true hv
  exact decide_eq_true (show (16384:Int)<=vnx V c/\vnx V c < 2097152 by rw [vnx];omega)
 ·have hv:(16384:Int)<=V/\V < 2097152:=of_decide_eq_true hv
  exact decide_eq_true (show (2097152:Int)<=vnx V c/\vnx V c < 268435456 by rw [vnx];omega)
theorem VM.done {V:Int} (h:VM V M most) (ho:EL V M c most=true) (hd:EZ M c=true):1<=D5 V M c/\D5 V M c<=most:=by
 simp only [EL,decide_eq_true_eq] at ho
 simp only [EZ,decide_eq_true_eq] at hd
 rw [D5,if_neg ho.1]
 have:=hd.2
 omega
structure HT where
 a:Int
 V:Int
 M:Int
def HT.v (t:HT):Array Value:=HS t.a t.V t.M 0
def HT.ok (t:HT):Prop:=(0<=t.a/\t.a<=2/\t.V=0/\t.M=0)\/t.a=3/\VM t.V t.M 65536
inductive HR where
|go (t:HT)
|done (n:Int)
|bad (e:Int)
def HT.step (t:HT) (c:Int):HR :=
 if t.a=0 then (if c=87 then .go ⟨1,0,0⟩ else .bad 240)
 else if t.a=1 then (if c=80 then .go ⟨2,0,0⟩ else .bad 240)
 else if t.a=2 then (if c=1 then .go ⟨3,0,0⟩ else .bad 241)
 else if EL t.V t.M c 65536 then (if EZ t.M c then .done (D5 t.V t.M c) else .go ⟨3,D5 t.V t.M c,EM t.M c⟩) else .bad 242
def HR.val:HR->Value
|.go t=>.tuple #[.agg t.v,.bool false,.int .i64 0]
|.done n=>.tuple #[.agg (HS 4 0 0 n),.bool true,.int .i64 0]
|.bad e=>.tuple #[.agg (HS 0 0 0 0),.bool false,.int .i64 e]
def HR.ok:HR->Prop
|.go t=>t.ok
|.done n=>1<=n/\n<=65536
|.bad e=>e=240\/e=241\/e=242
theorem HT.step_ok {t:HT} (h:t.ok) (c0:0<=c) (c1:c<=255):(t.step c).ok:=by
 obtain ⟨a,V,M⟩:=t
 simp only [HT.ok] at h
 simp only [HT.step]
 by_cases h0:a=0
 ·rw [if_pos h0];split
  ·exact .inl ⟨by simp,by simp,rfl,rfl⟩
  ·exact .inl rfl
 rw [if_neg h0]
 by_cases h1:a=1
 ·rw [if_pos h1];split
  ·exact .inl ⟨by simp,by simp,rfl,rfl⟩
  ·exact .inl rfl
 rw [if_neg h1]
 by_cases h2:a=2
 ·rw [if_pos h2];split
  ·exact .inr ⟨rfl,VM.zero (by decide)⟩
  ·exact .inr (.inl rfl)
 rw [if_neg h2]
 rcases h with h|⟨_,hv⟩
 ·omega
 split
 ·rename_i ho
  split
  ·rename_i hd
   exact hv.done ho hd
  ·rename_i hd
   exact .inr ⟨rfl,hv.next (by decide) c0 c1 ho (by simpa using hd)⟩
 ·exact .inr (.inr rfl)
theorem VA (t:HT) (h:t.ok) (c:Int) (c0:0<=c) (c1:c<=255) (w:World):Calls Tryz.prog 98 #[.agg t.v,.int .u8 c] w fun x w'=>(x=.returned (t.step c).val)/\Below w.heap.size w w':=by
 obtain ⟨a,V,M⟩:=t
 simp only [HT.ok] at h
 simp only [HT.v,HT.step]
 rcases h with ⟨a0,a2,rfl,rfl⟩|⟨rfl,hv⟩
 ·have e:a=0\/a=1\/a=2:=by omega
  rcases e with rfl|rfl|rfl
  ·rw [if_pos rfl]
   by_cases hc:c=87
   ·rw [if_pos hc,hc];exact vU w
   ·rw [if_neg hc];exact vN c hc w
  ·rw [if_neg (by decide),if_pos rfl]
   by_cases hc:c=80
   ·rw [if_pos hc,hc];exact vS w
   ·rw [if_neg hc];exact vM c hc w
  ·rw [if_neg (by decide),if_neg (by decide),if_pos rfl]
   by_cases hc:c=1
   ·rw [if_pos hc,hc];exact vP w
   ·rw [if_neg hc];exact vK c hc w
 ·rw [if_neg (by decide),if_neg (by decide),if_neg (by decide)]
  cases ho:EL V M c 65536 with
 |false=>rw [if_neg (by decide)];exact vO V M c hv.val hv.m0 hv.m4 hv.le c0 c1 ho w
 |true =>
   rw [if_pos rfl]
   cases hd:EZ M c with
  |true=>rw [if_pos rfl];exact nD V M c hv.val hv.m0 hv.m4 hv.le c0 c1 ho hd w
  |false=>rw [if_neg (by decide)];exact vW V M c hv.val hv.m0 hv.m4 hv.le c0 c1 ho hd w
inductive MT where
|mark
|mm (V M:Int)
|pp (m V M:Int)
|sum (m p s:Int) (k:Nat)
|last (s:Int) (k:Nat)
def MT.v:MT->Array Value
|.mark=>MS 0 0 0 0 0 0 0
|.mm V M=>MS 1 V M 0 0 0 0
|.pp m V M=>MS 2 V M m 0 0 0
|.sum m p s k=>MS 3 0 0 m p s k
|.last s k=>MS 5 0 0 0 0 s k
def MT.ok (n:Int):MT->Prop
|.mark=>True
|.mm V M=>VM V M n
|.pp m V M=>1<=m/\m<=n/\VM V M m
|.sum m p s k=>1<=m/\m<=n/\1<=p/\p<=m/\k<=3/\0<=s/\s < 2 ^ (8 * k)
|.last s k=>k<=3/\0<=s/\s < 2 ^ (8 * k)
inductive MR where
|go (t:MT)
|block (m p s:Int)
|tail (s:Int)
|bad
def MT.step (n:Int) (c:Int):MT->MR
|.mark=>if c=0 then .go (.last 0 0) else if c=1 then .go (.mm 0 0) else .bad
|.mm V M=>if EL V M c n then (if EZ M c then .go (.pp (D5 V M c) 0 0) else .go (.mm (D5 V M c) (EM M c))) else .bad
|.pp m V M=>if EL V M c m then (if EZ M c then .go (.sum m (D5 V M c) 0 0) else .go (.pp m (D5 V M c) (EM M c))) else .bad
|.sum m p s k=>if k=3 then .block m p (s * 256+c) else .go (.sum m p (s * 256+c) (k+1))
|.last s k=>if k=3 then .tail (s * 256+c) else .go (.last (s * 256+c) (k+1))
def MR.val:MR->Value
|.go t=>.tuple #[.agg t.v,.bool false,.int .i64 0]
|.block m p s=>.tuple #[.agg (MS 4 0 0 m p s 4),.bool true,.int .i64 0]
|.tail s=>.tuple #[.agg (MS 6 0 0 0 0 s 4),.bool true,.int .i64 0]
|.bad=>.tuple #[.agg (MS 0 0 0 0 0 0 0),.bool false,.int .i64 242]
def MR.ok (n:Int):MR->Prop
|.go t=>t.ok n
|.block m p s=>1<=m/\m<=n/\1<=p/\p<=m/\0<=s/\s < 4294967296
|.tail s=>0<=s/\s < 4294967296
|.bad=>True
theorem iH (h0:0<=s) (h1:s < 2 ^ (8 * k)) (c0:0<=c) (c1:c<=255):0<=s * 256+c/\s * 256+c < 2 ^ (8 * (k+1)):=by
 rw [show 8 * (k+1)=8 * k+8 by omega,Int.pow_add]
 have e:(2:Int) ^ 8=256:=by decide
 rw [e]
 omega
theorem QL (hk:k<=3) (h1:s < 2 ^ (8 * k)):s < 16777216:=by
 have e:k=0\/k=1\/k=2\/k=3:=by omega
 rcases e with rfl|rfl|rfl|rfl<;>simp at h1<;>omega
theorem MT.step_ok (n1:1<=n) (n2:n<=65536) {t:MT} (h:t.ok n) (c0:0<=c) (c1:c<=255):(t.step n c).ok n:=by
 cases t with
|mark =>
  simp only [MT.step]
  split
  ·exact ⟨by omega,by omega,by decide⟩
  ·split
   ·exact VM.zero (by omega)
   ·trivial
|mm V M =>
  simp only [MT.step]
  simp only [MT.ok] at h
  split
  ·rename_i ho
   split
   ·rename_i hd
    have:=h.done ho hd
    exact ⟨this.1,this.2,VM.zero (by omega)⟩
   ·rename_i hd
    exact h.next n2 c0 c1 ho (by simpa using hd)
  ·trivial
|pp m V M =>
  simp only [MT.step]
  simp only [MT.ok] at h
  split
  ·rename_i ho
   split
   ·rename_i hd
    have:=h.2.2.done ho hd
    exact ⟨h.1,h.2.1,this.1,this.2,by omega,by omega,by decide⟩
   ·rename_i hd
    exact ⟨h.1,h.2.1,h.2.2.next (by omega) c0 c1 ho (by simpa using hd)⟩
  ·trivial
|sum m p s k =>
  simp only [MT.step]
  simp only [MT.ok] at h
  have hp:=iH (k:=k) h.2.2.2.2.2.1 h.2.2.2.2.2.2 c0 c1
  split
  ·rename_i hk
   subst hk
   exact ⟨h.1,h.2.1,h.2.2.1,h.2.2.2.1,hp.1,by simpa using hp.2⟩
  ·exact ⟨h.1,h.2.1,h.2.2.1,h.2.2.2.1,by omega,hp.1,hp.2⟩
|last s k =>
  simp only [MT.step]
  simp only [MT.ok] at h
  have hp:=iH (k:=k) h.2.1 h.2.2 c0 c1
  split
  ·rename_i hk
   subst hk
   exact ⟨hp.1,by simpa using hp.2⟩
  ·exact ⟨by omega,hp.1,hp.2⟩
theorem Vo (n:Int) (n1:1<=n) (n2:n<=65536) (t:MT) (h:t.ok n) (c:Int) (c0:0<=c) (c1:c<=255) (w:World):Calls Tryz.prog 101 #[.int .i64 n,.agg t.v,.int .u8 c] w fun x w'=>(x=.returned (t.step n c).val)/\Below w.heap.size w w':=by
 cases t with
|mark =>
  simp only [MT.step,MT.v]
  by_cases h0:c=0
  ·rw [if_pos h0,h0];exact zL n n1 n2 w
  ·rw [if_neg h0]
   by_cases h1:c=1
   ·rw [if_pos h1,h1];exact zK n n1 n2 w
   ·rw [if_neg h1];exact zJ n n1 n2 c (by omega) w
|mm V M =>
  simp only [MT.step,MT.v]
  simp only [MT.ok] at h
  cases ho:EL V M c n with
 |false =>
   rw [if_neg (by decide)]
   cases hd:EZ M c with
  |true=>exact WB n n1 n2 V M c h.val h.m0 h.m4 c0 c1 h.le hd ho w
  |false=>exact XZ n n1 n2 V M c h.val h.m0 h.m4 c0 c1 h.le hd ho w
 |true =>
   rw [if_pos rfl]
   cases hd:EZ M c with
  |true=>rw [if_pos rfl];exact WA n n1 n2 V M c h.val h.m0 h.m4 c0 c1 h.le hd ho w
  |false=>rw [if_neg (by decide)];exact XY n n1 n2 V M c h.val h.m0 h.m4 c0 c1 h.le hd ho w
|pp m V M =>
  simp only [MT.step,MT.v]
  simp only [MT.ok] at h
  obtain ⟨m0,m1,h⟩:=h
  cases ho:EL V M c m with
 |false =>
   rw [if_neg (by decide)]
   cases hd:EZ M c with
  |true=>exact UC n n1 n2 m m0 m1 V M c h.val h.m0 h.m4 c0 c1 h.le hd ho w
  |false=>exact WH n n1 n2 m m0 m1 V M c h.val h.m0 h.m4 c0 c1 h.le hd ho w
 |true =>
   rw [if_pos rfl]
   cases hd:EZ M c with
  |true=>rw [if_pos rfl];exact UA n n1 n2 m m0 m1 V M c h.val h.m0 h.m4 c0 c1 h.le hd ho w
  |false=>rw [if_neg (by decide)];exact WG n n1 n2 m m0 m1 V M c h.val h.m0 h.m4 c0 c1 h.le hd ho w
|sum m p s k =>
  simp only [MT.step,MT.v]
  simp only [MT.ok] at h
  obtain ⟨m0,m1,p0,p1,hk,s0,s1⟩:=h
  by_cases h3:k=3
  ·subst h3
   rw [if_pos rfl]
   exact rF n n1 n2 m p m0 m1 p0 p1 s c s0 s1 (QL hk s1) c0 c1 w
  ·rw [if_neg h3]
   exact zI n n1 n2 m p m0 m1 p0 p1 s k c (by omega) (by omega) s0 (by rw [show (8 * (k:Int)).toNat=8 * k by omega];exact s1) (QL hk s1) c0 c1 (by omega) w
|last s k =>
  simp only [MT.step,MT.v]
  simp only [MT.ok] at h
  obtain ⟨hk,s0,s1⟩:=h
  by_cases h3:k=3
  ·subst h3
   rw [if_pos rfl]
   exact lg n n1 n2 s c s0 s1 (QL hk s1) c0 c1 w
  ·rw [if_neg h3]
   exact rH n n1 n2 s k c (by omega) (by omega) s0 (by rw [show (8 * (k:Int)).toNat=8 * k by omega];exact s1) (QL hk s1) c0 c1 (by omega) w
end Go.Proofs.YtkpbhdhkdonghaaGreat
