/-
  Part 22 of the proof.
-/
import Derived.Test.YtkpbhdhkdonghaaGreatA10
import Derived.Test.YtkpbhdhkdonghaaGreatA21
set_option linter.all false
set_option maxHeartbeats 1000000
set_option maxRecDepth 100000
namespace Go.Proofs.YtkpbhdhkdonghaaGreat.Pol
open Go Tryz Go.RowKit
def dist (m:Int):Int:=if m=1 then 8192 else if m=2 then 1024 else 0
def dok (m:Int):Bool:=decide (m=1\/m=2)
def dd (m:Int):Int:=if m=1 then 8192 else if m=2 then 1024 else 1
def A7s (n m:Int):Int:=if dd m < n then dd m else n
def bnd (n m:Int):Int:=if A3i n 2 m then 8300+15 * (n+1)+(2 * n+1) * A7s n m else 0
theorem A3u (n s:Int) (w:World) (hs:(Lit.int .u8 s).wf=true):Calls prog 11 #[.int .i64 n,.int .u8 s] w (A4U w (need n s 1) (er n s 1)):=by
 have HS:=h_ hs;clear hs;go_enter func11,ntmps11;have hm:=Own.nil w
 go_wp2_with (first
 |(go_at_call 40;refine (A40 n s 1 _ HS.out rfl).mono ?_;rintro e w1 ⟨rfl,hb1⟩;have hm1:=hm.call hb1;clear hm))
 go_ret2
 exact xhc
theorem A5Y (w:World):Calls prog 96 #[.int .u8 1] w (RB w (.tuple #[.int .i64 8192,.bool true])):=xhs
theorem A5X (w:World):Calls prog 96 #[.int .u8 2] w (RB w (.tuple #[.int .i64 1024,.bool true])):=xhs
theorem A5W (m:Int) (w:World) (h1:¬ m=1) (h2:¬ m=2):Calls prog 96 #[.int .u8 m] w (RB w (.tuple #[.int .i64 0,.bool false])):=by
 have b1:decide (m=1)=false:=decide_eq_false h1;have b2:decide (m=2)=false:=decide_eq_false h2;have b3:(m == 1)=false:=by simpa using h1
 have b4:(m == 2)=false:=by simpa using h2
 exact xhs
theorem A4O (m:Int) (w:World):Calls prog 96 #[.int .u8 m] w (RB w (.tuple #[.int .i64 (dist m),.bool (dok m)])):=by
 by_cases h1:m=1
 ·subst h1;exact A5Y w
 by_cases h2:m=2
 ·subst h2;exact A5X w
 have e1:dist m=0:=by rw [dist,if_neg h1,if_neg h2]
 have e2:dok m=false:=d_f;rw [e1,e2];exact A5W m w h1 h2
theorem A7z {n d:Int} (h1:1<=n) (h2:n<=d) (hd:d<=8192):0<=(2 * n+1) * n/\(2 * n+1) * n<=16385 * 8192:=by
 have a:(2 * n+1) * n<=16385 * n:=Int.mul_le_mul_of_nonneg_right (by omega) (by omega);have b:0<=(2 * n+1) * n:=Int.mul_nonneg (by omega) (by omega);omega
theorem A8h (n m:Int) (w:World) (hm:(Lit.int .u8 m).wf=true) (he:er n 2 m=2):Calls prog 42 #[.int .i64 n,.int .u8 m] w (A4U w 0 2):=by
 have HM:=h_ hm;have HE:=h_ he;clear hm he;go_enter func42,ntmps42;have hm:=Own.nil w
 go_wp2_with (first
 |(go_at_call 94;refine (A44 n 2 m _ rfl HM.out).mono ?_;rintro e w1 ⟨⟨r1,rfl,ho1⟩,hb1⟩;rw [HE.out];have hm1:=hm.call hb1;clear hm))
 go_ret2
 exact xhc
theorem A85 (n:Int) (w:World) (h1:1<=n) (h2:n<=65536) (h3:¬ 8192 < n):Calls prog 42 #[.int .i64 n,.int .u8 1] w (A4U w (8300+15 * (n+1)+(2 * n+1) * n) 0):=by
 have HE:Hid (er n 2 1=0):=by show er n 2 1=0;rw [er,if_pos ⟨h1,h2,by omega,by omega⟩]
 have hq:=A7z h1 (show n<=8192 by omega) (by omega);have hw1:IntKind.i64.wrap ((2 * n+1) * n)=(2 * n+1) * n:=i_6;have hw2:IntKind.i64.wrap (8300+15 * (n+1)+(2 * n+1) * n)=8300+15 * (n+1)+(2 * n+1) * n:=i_6;clear hq;exact xb6
theorem A86 (n:Int) (w:World) (h1:1<=n) (h2:n<=65536) (h3:8192 < n):Calls prog 42 #[.int .i64 n,.int .u8 1] w (A4U w (8300+15 * (n+1)+(2 * n+1) * 8192) 0):=by
 have HE:Hid (er n 2 1=0):=by show er n 2 1=0;rw [er,if_pos ⟨h1,h2,by omega,by omega⟩]
 exact xb6
theorem A83 (n:Int) (w:World) (h1:1<=n) (h2:n<=65536) (h3:¬ 1024 < n):Calls prog 42 #[.int .i64 n,.int .u8 2] w (A4U w (8300+15 * (n+1)+(2 * n+1) * n) 0):=by
 have HE:Hid (er n 2 2=0):=by show er n 2 2=0;rw [er,if_pos ⟨h1,h2,by omega,by omega⟩]
 have hq:=A7z h1 (show n<=1024 by omega) (by omega);have hw1:IntKind.i64.wrap ((2 * n+1) * n)=(2 * n+1) * n:=i_6;have hw2:IntKind.i64.wrap (8300+15 * (n+1)+(2 * n+1) * n)=8300+15 * (n+1)+(2 * n+1) * n:=i_6;clear hq;exact xb7
theorem A84 (n:Int) (w:World) (h1:1<=n) (h2:n<=65536) (h3:1024 < n):Calls prog 42 #[.int .i64 n,.int .u8 2] w (A4U w (8300+15 * (n+1)+(2 * n+1) * 1024) 0):=by
 have HE:Hid (er n 2 2=0):=by show er n 2 2=0;rw [er,if_pos ⟨h1,h2,by omega,by omega⟩]
 exact xb7
theorem A81 (n:Int) (w:World) (h1:1<=n) (h2:n<=65536) (h3:¬ 1 < n):Calls prog 42 #[.int .i64 n,.int .u8 3] w (A4U w (8300+15 * (n+1)+(2 * n+1) * n) 0):=by
 have HE:Hid (er n 2 3=0):=by show er n 2 3=0;rw [er,if_pos ⟨h1,h2,by omega,by omega⟩]
 have hq:=A7z h1 (show n<=1 by omega) (by omega);have hw1:IntKind.i64.wrap ((2 * n+1) * n)=(2 * n+1) * n:=i_6;have hw2:IntKind.i64.wrap (8300+15 * (n+1)+(2 * n+1) * n)=8300+15 * (n+1)+(2 * n+1) * n:=i_6;clear hq;exact xb3
theorem A82 (n:Int) (w:World) (h1:1<=n) (h2:n<=65536) (h3:1 < n):Calls prog 42 #[.int .i64 n,.int .u8 3] w (A4U w (8300+15 * (n+1)+(2 * n+1)) 0):=by
 have HE:Hid (er n 2 3=0):=by show er n 2 3=0;rw [er,if_pos ⟨h1,h2,by omega,by omega⟩]
 exact xb3
theorem A80 (n m:Int) (w:World) (hm:(Lit.int .u8 m).wf=true):Calls prog 42 #[.int .i64 n,.int .u8 m] w (A4U w (bnd n m) (er n 2 m)):=by
 by_cases ha:A3i n 2 m
 ·have he:er n 2 m=0:=by rw [er,if_pos ha]
  rw [he,bnd,if_pos ha,A7s];obtain ⟨h1,h2,_,rfl|rfl|rfl⟩:=ha
  ·split
   ·exact A86 n w h1 h2 (by assumption)
   ·exact A85 n w h1 h2 (by assumption)
  ·split
   ·exact A84 n w h1 h2 (by assumption)
   ·exact A83 n w h1 h2 (by assumption)
  ·split
   ·show Calls _ _ _ _ (A4U w (8300+15 * (n+1)+(2 * n+1) * 1) 0);rw [Int.mul_one];exact A82 n w h1 h2 (by assumption)
   ·exact A81 n w h1 h2 (by assumption)
 ·have he:er n 2 m=2:=by rw [er,if_neg ha]
  rw [he,bnd,if_neg ha];exact A8h n m w hm he
end Go.Proofs.YtkpbhdhkdonghaaGreat.Pol

namespace Go.Proofs.YtkpbhdhkdonghaaGreat.Pol
open Go Tryz Go.RowKit
variable {b m n s:Int}
def pkd (b n s:Int):Nat->Int × Int
|0=>(0,230)
|k+1=>if need n s ((k+1:Nat):Int)<=b then (((k+1:Nat):Int),0) else pkd b n s k
def A61 (b:Int):Prop:=1<=b/\b<=1048576
instance (b:Int):Decidable (A61 b):=by unfold A61;infer_instance
def pk (b n s:Int):Int × Int:=if A3i n s 1/\A61 b then pkd b n s 3 else (0,2)
def A3b (w:World) (p:Int × Int) (x:Ending) (w':World):Prop:=x=.returned (.tuple #[.int .u8 p.1,.int .i64 p.2])/\Below w.heap.size w w'
theorem A6f (k:Nat) (h:k<=3):(Lit.int .u8 (k:Int)).wf=true:=by
 simp [Lit.wf,IntKind.min,IntKind.max,IntKind.signed,IntKind.bits];omega
theorem A6J (b n s:Int) (w:World) (hs:(Lit.int .u8 s).wf=true) (he:er n s 1=2):Calls prog 110 #[.int .i64 b,.int .i64 n,.int .u8 s] w (A3b w (0,2)):=xh1
theorem A6K (b n s:Int) (w:World) (hs:(Lit.int .u8 s).wf=true) (he:er n s 1=0) (hb:b < 1):Calls prog 110 #[.int .i64 b,.int .i64 n,.int .u8 s] w (A3b w (0,2)):=xh1
theorem A6M (b n s:Int) (w:World) (hs:(Lit.int .u8 s).wf=true) (he:er n s 1=0) (hb:1048576 < b):Calls prog 110 #[.int .i64 b,.int .i64 n,.int .u8 s] w (A3b w (0,2)):=by
 have HS:=h_ hs;clear hs;have HE:=h_ he;clear he;have hb2:¬ b < 1:=by omega
 exact xbu
theorem A6L (b n s:Int) (w:World) (hs:(Lit.int .u8 s).wf=true) (he:er n s 1=0) (h1:1<=b) (h2:b<=1048576):Calls prog 110 #[.int .i64 b,.int .i64 n,.int .u8 s] w (A3b w (pkd b n s 3)):=by
 have HS:=h_ hs;have HE:=h_ he;clear hs he;have hb1:¬ b < 1:=by omega
 have hb2:¬ 1048576 < b:=by omega
 go_enter func110,ntmps110;have hm:=Own.nil w
 go_wp2_with (first
 |(go_at_call 11;refine (A3u n s _ HS.out).mono ?_;rintro e w1 ⟨rfl,hb1⟩;rw [HE.out];have hm1:=hm.call hb1;clear hm))
 go_loopw [6] (fun v wr=>∃ k:Nat,k<=3/\v=.int .u8 k/\pkd b n s 3=pkd b n s k/\Own w wr [] []) (fun v _=>(intOf v).toNat)
 case atStart=>exact ⟨3,by omega,rfl,rfl,hm1⟩
 case round =>
  obtain ⟨k,hk,rfl,hp,hmr⟩:=hrel;clear hm1;have HP:=h_ hp;clear hp;cases k with
 |zero =>
   go_wp2_with fail
   go_ret2
   exact ⟨by rw [HP.out];rfl,hmr.below⟩
 |succ k =>
   have HK:=h_ (A6f (k+1) hk);have c1:(0:Int) < ((k+1:Nat):Int):=by omega
   have c2:IntKind.u8.wrap (((k+1:Nat):Int) - 1)=(k:Int):=by
    have:k=0\/k=1\/k=2:=by omega
    rcases this with rfl|rfl|rfl<;>rfl
   have HD:Hid (pkd b n s (k+1)=if need n s ((k+1:Nat):Int)<=b then (((k+1:Nat):Int),0) else pkd b n s k):=rfl;generalize hq:((k+1:Nat):Int)=q at *;generalize hN:need n s q=N at *;have HN:=h_ hN;clear hN;by_cases hfit:N<=b
   ·rw [if_pos hfit] at HD
    go_wp2_with (first
    |(go_at_call 40;refine (A40 n s q _ HS.out HK.out).mono ?_;rintro e w2 ⟨rfl,hb2⟩;rw [HN.out];have hm2:=hmr.call hb2;clear hmr))
    go_ret2
    exact ⟨by rw [HP.out,HD.out];rfl,hm2.below⟩
   ·rw [if_neg hfit] at HD;have c3:decide (N<=b)=false:=decide_eq_false hfit
    go_wp2_with (first
    |(go_at_call 40;refine (A40 n s q _ HS.out HK.out).mono ?_;rintro e w2 ⟨rfl,hb2⟩;rw [HN.out];have hm2:=hmr.call hb2;clear hmr))
    go_roundw
    case rel=>exact ⟨k,by omega,by go_num,by rw [HP.out,HD.out],hm2⟩
    case measure=>simp [intOf];omega
def bu (b n s:Int):Nat->Int
|0=>1
|k+1=>if need n s ((k+1:Nat):Int)<=b then ((k+1:Nat):Int) else bu b n s k
theorem A8x (h:need n s 1<=b):pkd b n s 3=(bu b n s 3,0):=by
 have h':need n s ((0+1:Nat):Int)<=b:=h;simp only [pkd,bu];split
 ·rfl
 split
 ·rfl
 rfl
theorem A8a (h:b < need n s 1) (h12:need n s 1<=need n s 2) (h23:need n s 2<=need n s 3):pkd b n s 3=(0,230):=by
 have e3:¬ need n s ((2+1:Nat):Int)<=b:=by show ¬ need n s 3<=b;omega
 have e2:¬ need n s ((1+1:Nat):Int)<=b:=by show ¬ need n s 2<=b;omega
 have e1:¬ need n s ((0+1:Nat):Int)<=b:=by show ¬ need n s 1<=b;omega
 simp only [pkd];rw [if_neg e3,if_neg e2,if_neg e1]
theorem A3Z (h:A3i n s m):need n s m=if s=1 then (if m=3 then 2 * n+4 * rowsOf n else n) else if m=1 then n+1024 * (n / 8192) else if m=2 then n+1024 * (n / 1024) else n+4 * (n+1):=by
 unfold need lay;rw [if_pos h];unfold A74 A5Q
 repeat' split
 all_goals simp only [List.sum_cons,List.sum_nil]
 all_goals omega
theorem A7W (h:A3i n s 1):n<=need n s 1/\need n s 1<=need n s 2/\need n s 2<=need n s 3/\need n s 3<=1048576/\need n s 1<=n+(n+7) / 8:=by
 have a1:=h.1;have a2:=h.2.1;have a3:=h.2.2.1;have h2:A3i n s 2:=⟨a1,a2,a3,by omega⟩;have h3:A3i n s 3:=⟨a1,a2,a3,by omega⟩;rw [A3Z h,A3Z h2,A3Z h3];unfold rowsOf;rcases a3 with rfl|rfl
 ·simp only [if_true,show ¬ ((1:Int)=3) by omega,show ¬ ((2:Int)=3) by omega,if_false];split<;>omega
 ·simp only [if_true,show ¬ ((2:Int)=1) by omega,show ¬ ((3:Int)=1) by omega,show ¬ ((3:Int)=2) by omega,if_false];omega
theorem A4n (h:A3i n s m):er n s m=0:=if_pos h
theorem A7O (h:¬ A3i n s m):er n s m=2:=if_neg h
theorem pick_any (b n s:Int) (w:World) (hs:(Lit.int .u8 s).wf=true):Calls prog 110 #[.int .i64 b,.int .i64 n,.int .u8 s] w (A3b w (pk b n s)):=by
 by_cases ha:A3i n s 1
 ·by_cases hb:A61 b
  ·rw [pk,if_pos ⟨ha,hb⟩];exact A6L b n s w hs (A4n ha) hb.1 hb.2
  ·rw [pk,if_neg (fun h=>hb h.2)];by_cases h1:b < 1
   ·exact A6K b n s w hs (A4n ha) h1
   ·exact A6M b n s w hs (A4n ha) (by unfold A61 at hb;omega)
 ·rw [pk,if_neg (fun h=>ha h.1)];exact A6J b n s w hs (A7O ha)
end Go.Proofs.YtkpbhdhkdonghaaGreat.Pol
