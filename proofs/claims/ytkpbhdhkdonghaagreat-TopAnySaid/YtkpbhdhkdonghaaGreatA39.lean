/-
  Part 39 of the proof.
-/
import Derived.Test.YtkpbhdhkdonghaaGreatA13
import Derived.Test.YtkpbhdhkdonghaaGreatA36
import Derived.Test.YtkpbhdhkdonghaaGreatA38
set_option linter.all false
namespace Go.Proofs.YtkpbhdhkdonghaaGreat
open Go Tryz Go.RowKit
variable {h1:AH} {S:QG} {b:Bool} {k:IntKind} {n:Nat}
theorem KO {v:Value} (h:isI k v=true):∃ z,v=.int k z/\(Lit.int k z).wf=true:=by
 unfold isI at h;split at h
 ·rename_i j m;cases hb:Nat.beq (Fe j) (Fe k) with
 |false=>rw [hb] at h;cases h
 |true =>
   rw [hb] at h;obtain rfl:=Io hb;have hm:=n_l h;refine ⟨.ofNat m,rfl,?_⟩;have h1:j.min<=0:=by cases j<;>decide
   have h2:(YR j:Int)<=j.max:=by cases j<;>decide
   show (decide (j.min<=(m:Int)) && decide ((m:Int)<=j.max))=true;rw [b_t];exact xfe
 ·rename_i j m;cases hb:Nat.beq (Fe j) (Fe k) with
 |false=>rw [hb] at h;cases h
 |true =>
   rw [hb] at h;obtain rfl:=Io hb;cases hs:Nat.ble (Fe j) 3 with
  |false=>rw [hs] at h;cases h
  |true =>
    rw [hs] at h;have hm:=n_l h;refine ⟨.negSucc m,rfl,?_⟩;have h1:j.min<=-(YR j:Int) - 1:=by cases j<;>first|decide|cases hs
    have h2:0<=j.max:=by cases j<;>decide
    have h3:Int.negSucc m=-(m:Int) - 1:=by rw [Int.negSucc_eq];omega
    show (decide (j.min<=Int.negSucc m) && decide (Int.negSucc m<=j.max))=true;rw [b_t,h3];exact xfe
 ·cases h
theorem isIs1 {v:Value} (h:UH k 1 v=true):∃ z,v=.agg #[.int k z]/\(Lit.int k z).wf=true:=by
 cases v with
|agg cs =>
  obtain ⟨l⟩:=cs;rcases l with _|⟨x,_|⟨y,_|⟨z,t⟩⟩⟩
  ·cases h
  ·obtain ⟨z,rfl,hz⟩:=KO (show isI k x=true from h);exact ⟨z,rfl,hz⟩
  ·cases h
  ·cases h
|_=>cases h
theorem A1q {v:Value} (h:UH k 2 v=true):∃ y z,v=.agg #[.int k y,.int k z]/\(Lit.int k y).wf=true/\(Lit.int k z).wf=true:=by
 cases v with
|agg cs =>
  obtain ⟨l⟩:=cs;rcases l with _|⟨x,_|⟨y,_|⟨z,t⟩⟩⟩
  ·cases h
  ·cases h
  ·have h2:cond (isI k x) (isI k y) false=true:=h;clear h;cases hx:isI k x with
  |false=>rw [hx] at h2;cases h2
  |true =>
    rw [hx] at h2;obtain ⟨a,rfl,ha⟩:=KO hx;obtain ⟨b,rfl,hb⟩:=KO (show isI k y=true from h2);exact ⟨a,b,rfl,ha,hb⟩
  ·cases h
|_=>cases h
theorem ng:G6 prog:=by
 refine ⟨fun kt h=>?_,fun kt v _ h=>?_⟩
 ·simp only [Td,List.mem_cons,List.not_mem_nil,or_false] at h;rcases h with rfl|rfl|rfl|rfl|rfl
  ·exact kd3
  ·exact kd5
  ·exact GL
  ·exact Maps.Keyed.of_law Pol.A2k
  ·exact kd241
 ·unfold KN at h;cases h1:Nat.beq kt 134 with
 |true =>
   rw [h1] at h;obtain rfl:=n_q h1;obtain ⟨z,rfl,hz⟩:=isIs1 (show UH .i64 1 v=true from h);exact Option.isSome_iff_exists.2 (vI hz)
 |false =>
   rw [h1] at h;cases h2:Nat.beq kt 207 with
  |true =>
    rw [h2] at h;obtain rfl:=n_q h2;obtain ⟨y,z,rfl,hy,hz⟩:=A1q (show UH .u8 2 v=true from h);exact Option.isSome_iff_exists.2 (Pol.vC hy hz)
  |false =>
    rw [h2] at h;cases h3:Nat.beq kt 5 with
   |true =>
     rw [h3] at h;obtain rfl:=n_q h3;obtain ⟨z,rfl,hz⟩:=KO (show isI .u8 v=true from h);exact Option.isSome_iff_exists.2 (key5 hz)
   |false =>
     rw [h3] at h;cases h4:Nat.beq kt 3 with
    |true =>
      rw [h4] at h;obtain rfl:=n_q h4;obtain ⟨z,rfl,hz⟩:=KO (show isI .i64 v=true from h);exact Option.isSome_iff_exists.2 (EY hz)
    |false =>
      rw [h4] at h;cases h5:Nat.beq kt 241 with
     |true =>
       rw [h5] at h;obtain rfl:=n_q h5;obtain ⟨y,z,rfl,hy,hz⟩:=A1q (show UH .i64 2 v=true from h);exact Option.isSome_iff_exists.2 (A2l hy hz)
     |false=>rw [h5] at h;cases h
theorem Qx (hS:N8 prog S) (n:Nat) (w0:Base):Kt prog (ai prog S n) w0:=KZ ng it_ok (by kernel_rfl) hS n w0
theorem A0O (hS:N8 prog S) {f:FuncId} (hx:(ai prog S n).call f [] ⟨.nil,0⟩=some (.bool b,h1)) (w:World):Calls prog f #[] w (RB w (.bool b)):=by
 refine ((Qx hS n (Base.all w)).call.ok f [] ⟨.nil,0⟩ (.bool b) h1 hx (fun _=>none) w [] .nil (HX.nil (Base.all w))).mono ?_;rintro x w' ⟨u,e1,rfl,_,h3,h4⟩;cases h3;exact ⟨rfl,h4.below.toBelow⟩
end Go.Proofs.YtkpbhdhkdonghaaGreat
