/-
  Part 21 of the proof.
-/
import Derived.Test.YtkpbhdhkdonghaaGreatD10
import Derived.Test.YtkpbhdhkdonghaaGreatD20
set_option linter.all false
namespace Go.Proofs.YtkpbhdhkdonghaaGreat.Pol
set_option maxRecDepth 100000
open Go Tryz Go.RowKit
def dist (m:Int):Int:=if m=1 then 8192 else if m=2 then 1024 else 0
def dok (m:Int):Bool:=decide (m=1\/m=2)
theorem A3u (n s:Int) (w:World) (hs:(Lit.int .u8 s).wf=true):Calls prog 11 #[.int .i64 n,.int .u8 s] w (A4U w (need n s 1) (er n s 1)):=by
 have HS:=h_ hs;clear hs;go_enter func11,ntmps11;have hm:=Own.nil w
 go_wp2_with (first
 |(go_at_call 40;refine (A40 n s 1 _ HS.out rfl).mono ?_;rintro e w1 ⟨rfl,hb1⟩;have hm1:=hm.call hb1;clear hm))
 go_ret2
 exact ⟨rfl,hm1.below⟩
theorem A5Y (w:World):Calls prog 96 #[.int .u8 1] w (RB w (.tuple #[.int .i64 8192,.bool true])):=by
 go_enter func96,ntmps96;have hm:=Own.nil w
 go_wp2_with fail
 go_ret2
 exact ⟨rfl,hm.below⟩
theorem A5X (w:World):Calls prog 96 #[.int .u8 2] w (RB w (.tuple #[.int .i64 1024,.bool true])):=by
 go_enter func96,ntmps96;have hm:=Own.nil w
 go_wp2_with fail
 go_ret2
 exact ⟨rfl,hm.below⟩
theorem A5W (m:Int) (w:World) (h1:¬ m=1) (h2:¬ m=2):Calls prog 96 #[.int .u8 m] w (RB w (.tuple #[.int .i64 0,.bool false])):=by
 have b1:decide (m=1)=false:=decide_eq_false h1;have b2:decide (m=2)=false:=decide_eq_false h2;have b3:(m == 1)=false:=by simpa using h1
 have b4:(m == 2)=false:=by simpa using h2
 go_enter func96,ntmps96;have hm:=Own.nil w
 go_wp2_with fail
 go_ret2
 exact ⟨rfl,hm.below⟩
theorem A4O (m:Int) (w:World):Calls prog 96 #[.int .u8 m] w (RB w (.tuple #[.int .i64 (dist m),.bool (dok m)])):=by
 by_cases h1:m=1
 ·subst h1;exact A5Y w
 by_cases h2:m=2
 ·subst h2;exact A5X w
 have e1:dist m=0:=by rw [dist,if_neg h1,if_neg h2]
 have e2:dok m=false:=d_f;rw [e1,e2];exact A5W m w h1 h2
end Go.Proofs.YtkpbhdhkdonghaaGreat.Pol

namespace Go.Proofs.YtkpbhdhkdonghaaGreat.Pol
set_option maxHeartbeats 1000000
set_option maxRecDepth 100000
open Go Tryz Go.RowKit
variable {m n s:Int}
def pkd (b n s:Int):Nat->Int × Int
|0=>(0,230)
|k+1=>if need n s ((k+1:Nat):Int)<=b then (((k+1:Nat):Int),0) else pkd b n s k
def A61 (b:Int):Prop:=1<=b/\b<=1048576
instance (b:Int):Decidable (A61 b):=by unfold A61;infer_instance
def pk (b n s:Int):Int × Int:=if A3i n s 1/\A61 b then pkd b n s 3 else (0,2)
def A3b (w:World) (p:Int × Int) (x:Ending) (w':World):Prop:=x=.returned (.tuple #[.int .u8 p.1,.int .i64 p.2])/\Below w.heap.size w w'
theorem A6e (k:Nat) (h:k<=3):(Lit.int .u8 (k:Int)).wf=true:=by
 simp [Lit.wf,IntKind.min,IntKind.max,IntKind.signed,IntKind.bits];omega
theorem A6J (b n s:Int) (w:World) (hs:(Lit.int .u8 s).wf=true) (he:er n s 1=2):Calls prog 110 #[.int .i64 b,.int .i64 n,.int .u8 s] w (A3b w (0,2)):=by
 have HS:=h_ hs;clear hs;have HE:=h_ he;clear he;go_enter func110,ntmps110;have hm:=Own.nil w
 go_wp2_with (first
 |(go_at_call 11;refine (A3u n s _ HS.out).mono ?_;rintro e w1 ⟨rfl,hb1⟩;rw [HE.out];have hm1:=hm.call hb1;clear hm))
 go_ret2
 exact ⟨rfl,hm1.below⟩
theorem A6K (b n s:Int) (w:World) (hs:(Lit.int .u8 s).wf=true) (he:er n s 1=0) (hb:b < 1):Calls prog 110 #[.int .i64 b,.int .i64 n,.int .u8 s] w (A3b w (0,2)):=by
 have HS:=h_ hs;clear hs;have HE:=h_ he;clear he;go_enter func110,ntmps110;have hm:=Own.nil w
 go_wp2_with (first
 |(go_at_call 11;refine (A3u n s _ HS.out).mono ?_;rintro e w1 ⟨rfl,hb1⟩;rw [HE.out];have hm1:=hm.call hb1;clear hm))
 go_ret2
 exact ⟨rfl,hm1.below⟩
theorem A6M (b n s:Int) (w:World) (hs:(Lit.int .u8 s).wf=true) (he:er n s 1=0) (hb:1048576 < b):Calls prog 110 #[.int .i64 b,.int .i64 n,.int .u8 s] w (A3b w (0,2)):=by
 have HS:=h_ hs;clear hs;have HE:=h_ he;clear he;have hb2:¬ b < 1:=by omega
 go_enter func110,ntmps110;have hm:=Own.nil w
 go_wp2_with (first
 |(go_at_call 11;refine (A3u n s _ HS.out).mono ?_;rintro e w1 ⟨rfl,hb1⟩;rw [HE.out];have hm1:=hm.call hb1;clear hm))
 go_ret2
 exact ⟨rfl,hm1.below⟩
theorem A6L (b n s:Int) (w:World) (hs:(Lit.int .u8 s).wf=true) (he:er n s 1=0) (h1:1<=b) (h2:b<=1048576):Calls prog 110 #[.int .i64 b,.int .i64 n,.int .u8 s] w (A3b w (pkd b n s 3)):=by
 have HS:=h_ hs;have HE:=h_ he;clear hs he;have hb1:¬ b < 1:=by omega
 have hb2:¬ 1048576 < b:=by omega
 go_enter func110,ntmps110;have hm:=Own.nil w
 go_wp2_with (first
 |(go_at_call 11;refine (A3u n s _ HS.out).mono ?_;rintro e w1 ⟨rfl,hb1⟩;rw [HE.out];have hm1:=hm.call hb1;clear hm))
 go_loopw [6] (fun v wr=>∃ k:Nat,k<=3/\v=.int .u8 k/\pkd b n s 3=pkd b n s k/\Own w wr [] []) (fun v _=>(intOf v).toNat)
 case atStart=>exact ⟨3,by omega,rfl,rfl,hm1⟩
 case round =>
  obtain ⟨k,hk,rfl,hp,hmr⟩:=hrel;clear hm1;have HP:=h_ hp;clear hp;cases k with
 |zero =>
   go_wp2_with fail
   go_ret2
   exact ⟨by rw [HP.out];rfl,hmr.below⟩
 |succ k =>
   have HK:=h_ (A6e (k+1) hk);have c1:(0:Int) < ((k+1:Nat):Int):=by omega
   have c2:IntKind.u8.wrap (((k+1:Nat):Int) - 1)=(k:Int):=by
    have:k=0\/k=1\/k=2:=by omega
    rcases this with rfl|rfl|rfl<;>rfl
   have HD:Hid (pkd b n s (k+1)=if need n s ((k+1:Nat):Int)<=b then (((k+1:Nat):Int),0) else pkd b n s k):=rfl;generalize hq:((k+1:Nat):Int)=q at *;generalize hN:need n s q=N at *;have HN:=h_ hN;clear hN;by_cases hfit:N<=b
   ·rw [if_pos hfit] at HD
    go_wp2_with (first
    |(go_at_call 40;refine (A40 n s q _ HS.out HK.out).mono ?_;rintro e w2 ⟨rfl,hb2⟩;rw [HN.out];have hm2:=hmr.call hb2;clear hmr))
    go_ret2
    exact ⟨by rw [HP.out,HD.out];rfl,hm2.below⟩
   ·rw [if_neg hfit] at HD;have c3:decide (N<=b)=false:=decide_eq_false hfit
    go_wp2_with (first
    |(go_at_call 40;refine (A40 n s q _ HS.out HK.out).mono ?_;rintro e w2 ⟨rfl,hb2⟩;rw [HN.out];have hm2:=hmr.call hb2;clear hmr))
    go_roundw
    case rel=>exact ⟨k,by omega,by go_num,by rw [HP.out,HD.out],hm2⟩
    case measure=>simp [intOf];omega
def bu (b n s:Int):Nat->Int
|0=>1
|k+1=>if need n s ((k+1:Nat):Int)<=b then ((k+1:Nat):Int) else bu b n s k
theorem A3Z (h:A3i n s m):need n s m=if s=1 then (if m=3 then 2 * n+4 * rowsOf n else n) else if m=1 then n+1024 * (n / 8192) else if m=2 then n+1024 * (n / 1024) else n+4 * (n+1):=by
 unfold need lay;rw [if_pos h];unfold A73 A5Q
 repeat' split
 all_goals simp only [List.sum_cons,List.sum_nil]
 all_goals omega
theorem A4n (h:A3i n s m):er n s m=0:=if_pos h
theorem er_no (h:¬ A3i n s m):er n s m=2:=if_neg h
theorem pick_any (b n s:Int) (w:World) (hs:(Lit.int .u8 s).wf=true):Calls prog 110 #[.int .i64 b,.int .i64 n,.int .u8 s] w (A3b w (pk b n s)):=by
 by_cases ha:A3i n s 1
 ·by_cases hb:A61 b
  ·rw [pk,if_pos ⟨ha,hb⟩];exact A6L b n s w hs (A4n ha) hb.1 hb.2
  ·rw [pk,if_neg (fun h=>hb h.2)];by_cases h1:b < 1
   ·exact A6K b n s w hs (A4n ha) h1
   ·exact A6M b n s w hs (A4n ha) (by unfold A61 at hb;omega)
 ·rw [pk,if_neg (fun h=>ha h.1)];exact A6J b n s w hs (er_no ha)
end Go.Proofs.YtkpbhdhkdonghaaGreat.Pol
