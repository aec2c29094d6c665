/-
  Part 37 of the proof.
-/
import Derived.Test.YtkpbhdhkdonghaaGreatD10
import Derived.Test.YtkpbhdhkdonghaaGreatD13
import Derived.Test.YtkpbhdhkdonghaaGreatD14
import Derived.Test.YtkpbhdhkdonghaaGreatD32
import Derived.Test.YtkpbhdhkdonghaaGreatD36
set_option linter.all false
namespace Go.Proofs.YtkpbhdhkdonghaaGreat
open Go Tryz Go.RowKit
variable {h1:AH} {S:QG} {b:Bool} {k:IntKind} {n:Nat}
theorem KO {v:Value} (h:isI k v=true):∃ z,v=.int k z/\(Lit.int k z).wf=true:=by
 unfold isI at h;split at h
 ·rename_i j m;cases hb:Nat.beq (Fe j) (Fe k) with
 |false=>rw [hb] at h;cases h
 |true =>
   rw [hb] at h;obtain rfl:=Io hb;have hm:=n_l h;refine ⟨.ofNat m,rfl,?_⟩;have h1:j.min<=0:=by cases j<;>decide
   have h2:(YR j:Int)<=j.max:=by cases j<;>decide
   show (decide (j.min<=(m:Int)) && decide ((m:Int)<=j.max))=true;rw [b_t];exact ⟨decide_eq_true (by omega),decide_eq_true (by omega)⟩
 ·rename_i j m;cases hb:Nat.beq (Fe j) (Fe k) with
 |false=>rw [hb] at h;cases h
 |true =>
   rw [hb] at h;obtain rfl:=Io hb;cases hs:Nat.ble (Fe j) 3 with
  |false=>rw [hs] at h;cases h
  |true =>
    rw [hs] at h;have hm:=n_l h;refine ⟨.negSucc m,rfl,?_⟩;have h1:j.min<=-(YR j:Int) - 1:=by cases j<;>first|decide|cases hs
    have h2:0<=j.max:=by cases j<;>decide
    have h3:Int.negSucc m=-(m:Int) - 1:=by rw [Int.negSucc_eq];omega
    show (decide (j.min<=Int.negSucc m) && decide (Int.negSucc m<=j.max))=true;rw [b_t,h3];exact ⟨decide_eq_true (by omega),decide_eq_true (by omega)⟩
 ·cases h
theorem isIs1 {v:Value} (h:UH k 1 v=true):∃ z,v=.agg #[.int k z]/\(Lit.int k z).wf=true:=by
 cases v with
|agg cs =>
  obtain ⟨l⟩:=cs;rcases l with _|⟨x,_|⟨y,_|⟨z,t⟩⟩⟩
  ·cases h
  ·obtain ⟨z,rfl,hz⟩:=KO (show isI k x=true from h);exact ⟨z,rfl,hz⟩
  ·cases h
  ·cases h
|_=>cases h
theorem A1q {v:Value} (h:UH k 2 v=true):∃ y z,v=.agg #[.int k y,.int k z]/\(Lit.int k y).wf=true/\(Lit.int k z).wf=true:=by
 cases v with
|agg cs =>
  obtain ⟨l⟩:=cs;rcases l with _|⟨x,_|⟨y,_|⟨z,t⟩⟩⟩
  ·cases h
  ·cases h
  ·have h2:cond (isI k x) (isI k y) false=true:=h;clear h;cases hx:isI k x with
  |false=>rw [hx] at h2;cases h2
  |true =>
    rw [hx] at h2;obtain ⟨a,rfl,ha⟩:=KO hx;obtain ⟨b,rfl,hb⟩:=KO (show isI k y=true from h2);exact ⟨a,b,rfl,ha,hb⟩
  ·cases h
|_=>cases h
theorem ng:G6 prog:=by
 refine ⟨fun kt h=>?_,fun kt v _ h=>?_⟩
 ·simp only [Td,List.mem_cons,List.not_mem_nil,or_false] at h;rcases h with rfl|rfl|rfl|rfl|rfl
  ·exact kd3
  ·exact kd5
  ·exact GL
  ·exact Maps.Keyed.of_law Pol.A2k
  ·exact kd241
 ·unfold KN at h;cases h1:Nat.beq kt 134 with
 |true =>
   rw [h1] at h;obtain rfl:=n_q h1;obtain ⟨z,rfl,hz⟩:=isIs1 (show UH .i64 1 v=true from h);exact Option.isSome_iff_exists.2 (vI hz)
 |false =>
   rw [h1] at h;cases h2:Nat.beq kt 207 with
  |true =>
    rw [h2] at h;obtain rfl:=n_q h2;obtain ⟨y,z,rfl,hy,hz⟩:=A1q (show UH .u8 2 v=true from h);exact Option.isSome_iff_exists.2 (Pol.vC hy hz)
  |false =>
    rw [h2] at h;cases h3:Nat.beq kt 5 with
   |true =>
     rw [h3] at h;obtain rfl:=n_q h3;obtain ⟨z,rfl,hz⟩:=KO (show isI .u8 v=true from h);exact Option.isSome_iff_exists.2 (key5 hz)
   |false =>
     rw [h3] at h;cases h4:Nat.beq kt 3 with
    |true =>
      rw [h4] at h;obtain rfl:=n_q h4;obtain ⟨z,rfl,hz⟩:=KO (show isI .i64 v=true from h);exact Option.isSome_iff_exists.2 (EY hz)
    |false =>
      rw [h4] at h;cases h5:Nat.beq kt 241 with
     |true =>
       rw [h5] at h;obtain rfl:=n_q h5;obtain ⟨y,z,rfl,hy,hz⟩:=A1q (show UH .i64 2 v=true from h);exact Option.isSome_iff_exists.2 (A2l hy hz)
     |false=>rw [h5] at h;cases h
theorem Qx (hS:N8 prog S) (n:Nat) (w0:Base):Kt prog (ai prog S n) w0:=KZ ng it_ok (by kernel_rfl) hS n w0
theorem A0O (hS:N8 prog S) {f:FuncId} (hx:(ai prog S n).call f [] ⟨.nil,0⟩=some (.bool b,h1)) (w:World):Calls prog f #[] w (RB w (.bool b)):=by
 refine ((Qx hS n (Base.all w)).call.ok f [] ⟨.nil,0⟩ (.bool b) h1 hx (fun _=>none) w [] .nil (HX.nil (Base.all w))).mono ?_;rintro x w' ⟨u,e1,rfl,_,h3,h4⟩;cases h3;exact ⟨rfl,h4.below.toBelow⟩
def Oz:I_:=[0,0,1,1,0,0,1,1,1,1,1,1,0,0,0,0,0,0,0,0,0,0,0,0,0,0,0,0,0,0,0,0,0,0,0,0,0,0,0,0,0,0,0,0,0,0,0,0,0,0,0,0,0,0,0,0,0,0,0,0,0,0,0,0,0,0,0,0,0,0,0,0,0,0,0,0,0,0,0,0,0,0,0,0,0,0,0,0,0,0,0,0,0,0,0,0,0,0,0,0,0,0,0,0,0,0,0,0,0,1,0,1,0,1,0,0,0,1,1,1,1,1,1,0,0,0,0,0,0,0,0,0,0,1,0,1,0,0,1,1,1,1,0,0,0,0,0,0,0,0,0,0,0,0,0,0,0,0,0,0,0,0,0,0,0,0,0,0,0,0,0,0,0,0,0,0,0,0,0,0,0,0,0,0,0,0,0,0,0,0,0,0,0,0,0,0,0,0,0,0,0,0,0,0,0,0,0,0,0,0,0,0,0,0,0,0,0,0,0,0,0,0,0,0,0,0,0,0,0,0,0,0,0,0,0,0,0,0,0,0,0,0,0,0,0,0,0,0,0,0,0,0,0,0,0,0,0,0,0,0,0,0,0,0,0,0,0,0,0,0,0,0,0,0,0,0,0,0,0,0,0,0,0,0,0,0,0,1,0,1,0,0,1,1,0,0,0,1,0,0,1,1,1,1,0,1,0,1,0,0,0,0,0,0,0,0,0,0,0,0,0,0,0,0,0,0,1,1,1,0,0,0,1,0,1,1,0,1,1,0,0,1,1,1,1,1,0,0,1,1,1,1]
def xE:L_:=(nv .i64 [0,0,1,1,0,0,1,1,1,1,1,1,0,0,0,0,0,0,0,0,0,0,0,0,0,0,0,0,0,0,0,0,0,0,0,0,0,0,0,0,0,0,0,0,0,0,0,0,0,0,0,0,0,0,0,0,0,0,0,0,0,0,0,0,0,0,0,0,0,0,0,0,0,0,0,0,0,0,0,0,0,0,0,0,0,0,0,0,0,0,0,0,0,0,0,0,0,0,0,0,0,0,0,0,0,0,0,0,0,1,0,1,0,1,0,0,0,1,1,1,1,1,1,0,0,0,0,0,0,0,0,0,0,1,0,1,0,0,1,1,1,1,0,0,0,0,0,0,0,0,0,0,0,0,0,0,0,0,0,0,0,0,0,0,0,0,0,0,0,0,0,0,0,0,0,0,0,0,0,0,0,0,0,0,0,0,0,0,0,0,0,0,0,0,0,0,0,0,0,0,0,0,0,0,0,0,0,0,0,0,0,0,0,0,0,0,0,0,0,0,0,0,0,0,0,0,0,0,0,0,0,0,0,0,0,0,0,0,0,0,0,0,0,0,0,0,0,0,0,0,0,0,0,0,0,0,0,0,0,0,0,0,0,0,0,0,0,0,0,0,0,0,0,0,0,0,0,0,0,0,0,0,0,0,0,0,0,1,0,1,0,0,1,1,0,0,0,1,0,0,1,1,1,1,0,1,0,1,0,0,0,0,0,0,0,0,0,0,0,0,0,0,0,0,0,0,1,1,1,0,0,0,1,0,1,1,0,1,1,0,0,1,1,1,1,1,0,0,1,1,1,1])
theorem xC:xE=vs .i64 Oz:=by kernel_rfl
theorem VX:Oz.length=352:=by kernel_rfl
theorem ou:Bin Oz:=by
 have h:Oz.all (fun x=>decide (0<=x/\x<=1))=true:=by kernel_rfl
 intro x hx;exact of_decide_eq_true (List.all_eq_true.1 h x hx)
theorem oh:Bv TT0 Oz 0=(P9,292,0):=by kernel_rfl
noncomputable def aZ (args:L_) (h:AH):Option (Option (Value × AH)):=match args with
|[.slice a n c]=>cond (Nat.beq n 352) (match JW 1 352 h (.slice a n c) with
 |some l=>cond (eqQ l xE) (tell (.tuple [.agg KA.toArray,.int .i64 292,.int .i64 0].toArray) h) none
 |none=>none) none
|_=>none
theorem kY {args:L_} {h:AH} {v:Value} {h':AH} (hx:aZ args h=some (some (v,h'))) {w0:Base} {e:En} {w:World} {args':L_} (hv:VRs e args args') (hr:HX e h w0 w) :
  Calls prog 103 args'.toArray w fun x w'=>∃ u e',x=.returned u/\e.le e'/\VR e' v u/\HX e' h' w0 w':=by
 unfold aZ at hx;split at hx
 ·rename_i a n c;cases hb:Nat.beq n 352 with
 |false=>rw [hb] at hx;cases hx
 |true =>
   rw [hb] at hx;simp only [cond_true] at hx;have hn:=n_q hb;subst hn;split at hx
   ·rename_i l hel;cases hq:eqQ l xE with
   |false=>rw [hq] at hx;cases hx
   |true =>
     rw [hq] at hx;cases hx;have hl:=PI hq;cases hv with
    |cons hv1 hv2 =>
     cases hv2;obtain ⟨g,off,m,c',us,e1,e2,⟨_,_,e3⟩,e4,e5,e6⟩:=FB hr hel hv1 (fun _ _ _ h=>by cases h;exact Nat.le_refl _) (by omega);cases e3;subst e1;rw [hl,xC] at e4;have hus:=TB (Hq .i64 Oz) e4
     have hin:In .i64 w (.slice (some ⟨g,off,none⟩) 352 c') Oz:=by
      refine ⟨some ⟨g,off,none⟩,c',by rw [VX],fun i hi=>⟨_,rfl,e6 i _ ?_⟩⟩;rw [hus];exact Fg .i64 Oz i hi
     refine Ee (SN _ Oz w hin ou (by rw [VX];omega)) ?_ hr;rw [oh];have:Value.agg (J .u8 P9)=.agg KA.toArray:=by rw [IV];rfl
     simp only [this];exact .tuple (a':=[.agg KA.toArray,.int .i64 292,.int .i64 0]) (.cons (Gm (by rw [IV];exact Hq _ _)) (.cons (.int _ _) (.cons (.int _ _) .nil)))
   ·cases hx
 ·cases hx
noncomputable def qX:QG:=fun D f args h=>cond (Nat.beq f 103) (aZ args h) (A1L D f args h)
theorem Wy:N8 prog qX:=by
 intro D hD f args h v h' hx w0 e w args' hv hr;unfold qX at hx;cases hb:Nat.beq f 103 with
|true =>
  rw [hb] at hx;obtain rfl:=n_q hb;exact kY hx hv hr
|false =>
  rw [hb] at hx;exact zD D hD f args h v h' hx w0 e w args' hv hr
end Go.Proofs.YtkpbhdhkdonghaaGreat
