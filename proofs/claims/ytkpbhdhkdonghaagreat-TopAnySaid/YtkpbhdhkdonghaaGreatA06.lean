/-
  Part 6 of the proof.
-/
import Derived.Lib.BytesEntry
import Derived.Lib.Hide
import Derived.Test.YtkpbhdhkdonghaaGreatA05
set_option linter.all false
set_option maxHeartbeats 400000
set_option maxRecDepth 100000
namespace Go.Proofs.YtkpbhdhkdonghaaGreat
open Go Tryz Go.RowKit
def Bytes (l:I_):Prop:=∀ x ∈ l,0<=x/\x < 256
theorem A1G (x c:Int) (hx:0<=x/\x < 256) (hc:0<=c/\c < 256):(UInt8.ofNat x.toNat == c.toNat.toUInt8)=(x == c):=by
 rw [Bool.eq_iff_iff];simp only [beq_iff_eq]
 constructor
 ·intro h;have:=congrArg UInt8.toNat h;simp at this;omega
 ·rintro rfl;rfl
theorem MG:∀ (l:I_) (c:Int),Bytes l->0<=c/\c < 256->Lib.indexByte (Lib.bytesOf l) c.toNat.toUInt8=pos l c
|[],_,_,_=>rfl
|x::l,c,hb,hc=>by
  have ih:=MG l c (fun y hy=>hb y (by simp [hy])) hc;have e:=A1G x c (hb x (by simp)) hc;simp only [Lib.bytesOf,List.map_cons,Lib.indexByte,e];simp only [Lib.bytesOf] at ih;rw [ih];by_cases hxc:(x == c)=true
  ·simp [pos,List.findIdx_cons,hxc]
  ·have hf:(x == c)=false:=by simpa using hxc
   simp only [pos,List.findIdx_cons,hf,cond_false,List.length_cons];split<;>split<;>simp_all<;>omega
theorem UJ (b o n c:Nat) (xs:I_) (cv:Int) (w:World) (hx:xs.length=n) (hb:Bytes xs) (hcv:0<=cv/\cv < 256)
  (hc:∀ i,i < n->w.cell? ⟨b,o+i,none⟩=some (.int .u8 (xs.getD i 0))) :
  Calls prog 258 #[.slice (some ⟨b,o,none⟩) n c,.int .u8 cv] w fun e w'=>e=.returned (.int .i64 (pos xs cv))/\w=w':=by
 rw [<- MG xs cv hb hcv];go_enter func258,ntmps258;go_wp2;rw [run_callFunc_extern func280 (by kernel_rfl) (by kernel_rfl) (by kernel_rfl) (e:=Extern.BytealgIndexByte.indexByte) (by kernel_rfl),Lib.run_indexByteSlice w b o n c xs hx hc cv];simp only [Result.andThen];rw [Oper.upon_value];go_wp2;exact xg7
open Go Go.RowKit
structure Vl (l:I_):Prop where
 len:l.length=256
 bytes:Bytes l
 all:∀ c,0<=c->c < 256->c ∈ l
theorem BZ (l:I_) (k:Nat) (h:k < l.length):gi l k=l[k]:=by
 simp [gi,List.getD_eq_getElem?_getD,l_e h]
theorem A2o (l:I_) (k:Nat) (h:k < l.length):gi l k ∈ l:=by rw [BZ l k h];exact List.getElem_mem h
theorem Bytes.gi {l:I_} (hb:Bytes l) (k:Nat) (h:k < l.length):0<=gi l k/\YtkpbhdhkdonghaaGreat.gi l k < 256:=hb _ (A2o l k h)
theorem iT (k:Nat) (h:k < 256):new[k]?=some (k:Int):=by
 simp only [new,Jh,List.getElem?_map,List.getElem?_range h,Option.map_some,if_pos h]
theorem A1E:Vl new:=by
 refine ⟨FW,?_,?_⟩
 ·intro x hx;obtain ⟨k,hk,rfl⟩:=List.getElem_of_mem hx;have hk':k < 256:=by rw [FW] at hk;exact hk
  have:=iT k hk';rw [l_e hk] at this;simp only [Option.some.injEq] at this;omega
 ·intro c h0 h1;obtain ⟨k,rfl⟩:=Int.eq_ofNat_of_zero_le h0;exact l_m (iT k (by omega))
theorem dX (l:I_) (k:Nat) (h:k < l.length):(front l k).Perm l:=by
 rw [front,BZ l k h,List.eraseIdx_eq_take_drop_succ];have e:l.take k++l[k]::l.drop (k+1)=l:=by rw [<- List.drop_eq_getElem_cons h,List.take_append_drop]
 exact List.perm_middle.symm.trans (by rw [e])
theorem Vl.front {l:I_} (h:Vl l) (k:Nat) (hk:k < 256):Vl (front l k):=by
 have hp:=dX l k (by rw [h.len];exact hk);exact ⟨hp.length_eq.trans h.len,fun x hx=>h.bytes x (hp.mem_iff.1 hx),fun c h0 h1=>hp.mem_iff.2 (h.all c h0 h1)⟩
theorem Vl.Ie {l:I_} (h:Vl l) (p:Int):Vl (Ie l p):=by
 unfold YtkpbhdhkdonghaaGreat.Ie;split
 ·exact h.front _ (by omega)
 ·exact h
def bck:I_->I_->I_
|_,[]=>[]
|l,p::b=>takeC l p::bck (Ie l p) b
def back (b:I_):I_:=bck new b
theorem FQ (b:I_) (k:Nat) (h:k < b.length):b.take (k+1)=b.take k++[gi b k]:=by
 rw [List.take_succ_eq_append_getElem h,BZ b k h]
theorem P7 (k:IntKind) (a b:I_):vs k (a++b)=vs k a++vs k b:=by simp [vs]
theorem XT {l:I_} (h:Vl l) (p:Int):0<=takeC l p/\takeC l p < 256:=by
 unfold takeC;split
 ·exact h.bytes.gi _ (by rw [h.len];omega)
 ·omega
def last (b:I_) (i:Nat):Int:=if i=0 then 0 else gi b (i - 1)
end Go.Proofs.YtkpbhdhkdonghaaGreat
