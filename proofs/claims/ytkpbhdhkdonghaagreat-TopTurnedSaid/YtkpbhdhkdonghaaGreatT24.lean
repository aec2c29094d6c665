/-
  Part 24 of the proof.
-/
import GoSem.Step
import Derived.Maps.Keyed
set_option linter.all false
namespace Go.Proofs.YtkpbhdhkdonghaaGreat
open Go
abbrev OV := Option Value
inductive Pa where
  | e
  | a (p : Pa)
  | b (p : Pa)
  deriving DecidableEq
noncomputable def pa : Nat → Nat → Pa
  | 0, _ => .e
  | f + 1, n => cond (Nat.beq n 0) .e (cond (Nat.beq (Nat.mod n 2) 1) (.a (pa f (Nat.div n 2))) (.b (pa f (Nat.sub (Nat.div n 2) 1))))
inductive Tr (α : Type) where
  | nil
  | node (v : Option α) (l r : Tr α)
noncomputable def Tr.at {α : Type} (p : Pa) : Tr α → Option α :=
  Pa.rec (motive := fun _ => Tr α → Option α) (fun t => Tr.rec (motive := fun _ => Option α) none (fun v _ _ _ _ => v) t)
    (fun _ ih t => Tr.rec (motive := fun _ => Option α) none (fun _ l _ _ _ => ih l) t)
    (fun _ ih t => Tr.rec (motive := fun _ => Option α) none (fun _ _ r _ _ => ih r) t) p
noncomputable def Tr.get {α : Type} (t : Tr α) (n : Nat) : Option α := Tr.at (pa 24 n) t
noncomputable def Tr.lay {α : Type} (x : Option α) (p : Pa) : Tr α → Tr α :=
  Pa.rec (motive := fun _ => Tr α → Tr α) (fun t => Tr.rec (motive := fun _ => Tr α) (.node x .nil .nil) (fun _ l r _ _ => .node x l r) t)
    (fun _ ih t => Tr.rec (motive := fun _ => Tr α) (.node none (ih .nil) .nil) (fun v l r _ _ => .node v (ih l) r) t)
    (fun _ ih t => Tr.rec (motive := fun _ => Tr α) (.node none .nil (ih .nil)) (fun v l r _ _ => .node v l (ih r)) t) p
noncomputable def Tr.put {α : Type} (t : Tr α) (n : Nat) (x : Option α) : Tr α := Tr.lay x (pa 24 n) t
noncomputable def fnat {β : Type} (n : Nat) (k : Nat → β) : β := Nat.rec (k 0) (fun m _ => k m) (Nat.add n 1)
noncomputable def fint {β : Type} (z : Int) (k : Int → β) : β := match z with
  | .ofNat n => fnat n fun n => k (.ofNat n)
  | .negSucc n => fnat n fun n => k (.negSucc n)
noncomputable def fval (v : Value) : OV := match v with
  | .int q z => fint z fun z => some (.int q z)
  | v => some v
noncomputable def llay0 {α : Type} (vs : List α) : List α → Option (List α) :=
  List.rec (motive := fun _ => List α → Option (List α)) (fun cs => some cs)
    (fun v _ ih cs => List.rec (motive := fun _ => Option (List α)) none (fun _ cs _ => Option.rec (motive := fun _ => Option (List α)) none (fun m => some (v :: m)) (ih cs)) cs) vs
noncomputable def llay {α : Type} (cs : List α) (off : Nat) (vs : List α) : Option (List α) :=
  Nat.rec (motive := fun _ => List α → Option (List α)) (fun cs => llay0 vs cs)
    (fun _ ih cs => List.rec (motive := fun _ => Option (List α)) none (fun c cs _ => Option.rec (motive := fun _ => Option (List α)) none (fun m => some (c :: m)) (ih cs)) cs) off cs
noncomputable def ltk {α : Type} (n : Nat) : List α → Option (List α) :=
  Nat.rec (motive := fun _ => List α → Option (List α)) (fun _ => some [])
    (fun _ ih cs => List.rec (motive := fun _ => Option (List α)) none (fun c cs _ => Option.rec (motive := fun _ => Option (List α)) none (fun m => some (c :: m)) (ih cs)) cs) n
noncomputable def lseg {α : Type} (cs : List α) (off n : Nat) : Option (List α) :=
  Nat.rec (motive := fun _ => List α → Option (List α)) (fun cs => ltk n cs)
    (fun _ ih cs => List.rec (motive := fun _ => Option (List α)) none (fun _ cs _ => ih cs) cs) off cs
noncomputable def lat {α : Type} (cs : List α) (n : Nat) : Option α :=
  Nat.rec (motive := fun _ => List α → Option α) (fun cs => List.rec (motive := fun _ => Option α) none (fun c _ _ => some c) cs)
    (fun _ ih cs => List.rec (motive := fun _ => Option α) none (fun _ cs _ => ih cs) cs) n cs
noncomputable def lenIs {α : Type} (n : Nat) (l : List α) : Bool :=
  Nat.rec (motive := fun _ => List α → Bool) (fun l => List.rec (motive := fun _ => Bool) true (fun _ _ _ => false) l) (fun _ ih l => List.rec (motive := fun _ => Bool) false (fun _ t _ => ih t) l) n l
noncomputable def sameL {α : Type} (a b : List α) : Bool :=
  List.rec (motive := fun _ => List α → Bool) (fun l => List.rec (motive := fun _ => Bool) true (fun _ _ _ => false) l) (fun _ _ ih l => List.rec (motive := fun _ => Bool) false (fun _ t _ => ih t) l) a b
noncomputable def lsegQ {α : Type} (cs : List α) (off n : Nat) : Option (List α) := cond (Nat.beq off 0) (cond (lenIs n cs) (some cs) (lseg cs off n)) (lseg cs off n)
noncomputable def llayQ {α : Type} (cs : List α) (off : Nat) (vs : List α) : Option (List α) := cond (Nat.beq off 0) (cond (sameL cs vs) (some vs) (llay cs off vs)) (llay cs off vs)
noncomputable def azeros (z : List Value) : Nat → List Value
  | 0 => []
  | n + 1 => z ++ azeros z n
inductive AO where
  | row (cs : List Value) (es : Nat)
  | ro (cs : List Value)
  | mp (es : List (Value × Value))
  | mark
  | big (r : List (List Value))
noncomputable def app {α : Type} (a b : List α) : List α := List.rec (motive := fun _ => List α) b (fun x _ ih => x :: ih) a
noncomputable def rlist {α : Type} (r : List (List α)) : List α := List.rec (motive := fun _ => List α) [] (fun a _ ih => app a ih) r
noncomputable def cut16 {α : Type} (l0 : List α) : Option (List α × List α) :=
  List.rec (motive := fun _ => Option (List α × List α)) none (fun x0 l1 _ => List.rec (motive := fun _ => Option (List α × List α)) none (fun x1 l2 _ => List.rec (motive := fun _ => Option (List α × List α)) none (fun x2 l3 _ => List.rec (motive := fun _ => Option (List α × List α)) none (fun x3 l4 _ => List.rec (motive := fun _ => Option (List α × List α)) none (fun x4 l5 _ => List.rec (motive := fun _ => Option (List α × List α)) none (fun x5 l6 _ => List.rec (motive := fun _ => Option (List α × List α)) none (fun x6 l7 _ => List.rec (motive := fun _ => Option (List α × List α)) none (fun x7 l8 _ => List.rec (motive := fun _ => Option (List α × List α)) none (fun x8 l9 _ => List.rec (motive := fun _ => Option (List α × List α)) none (fun x9 l10 _ => List.rec (motive := fun _ => Option (List α × List α)) none (fun x10 l11 _ => List.rec (motive := fun _ => Option (List α × List α)) none (fun x11 l12 _ => List.rec (motive := fun _ => Option (List α × List α)) none (fun x12 l13 _ => List.rec (motive := fun _ => Option (List α × List α)) none (fun x13 l14 _ => List.rec (motive := fun _ => Option (List α × List α)) none (fun x14 l15 _ => List.rec (motive := fun _ => Option (List α × List α)) none (fun x15 l16 _ => some ([x0, x1, x2, x3, x4, x5, x6, x7, x8, x9, x10, x11, x12, x13, x14, x15], l16)) l15) l14) l13) l12) l11) l10) l9) l8) l7) l6) l5) l4) l3) l2) l1) l0
noncomputable def pieces {α : Type} (f : Nat) : List α → List (List α) :=
  Nat.rec (motive := fun _ => List α → List (List α)) (fun l => [l]) (fun _ ih l => Option.rec (motive := fun _ => List (List α)) [l] (fun p => Prod.rec (motive := fun _ => List (List α)) (fun a t => a :: ih t) p) (cut16 l)) f
noncomputable def rof {α : Type} (l : List α) : List (List α) := pieces 100000 l
noncomputable def longer {α : Type} (n : Nat) : List α → Bool :=
  Nat.rec (motive := fun _ => List α → Bool) (fun l => List.rec (motive := fun _ => Bool) false (fun _ _ _ => true) l) (fun _ ih l => List.rec (motive := fun _ => Bool) false (fun _ t _ => ih t) l) n
noncomputable def mkRow (cs : List Value) : AO := cond (longer 300 cs) (.big (rof cs)) (.row cs 0)
noncomputable def rget {α : Type} (r : List (List α)) (off : Nat) : Option α := Option.rec (motive := fun _ => Option α) none (fun c => lat c (Nat.mod off 16)) (lat r (Nat.div off 16))
noncomputable def rset {α : Type} (r : List (List α)) (off : Nat) (v : α) : Option (List (List α)) :=
  Option.rec (motive := fun _ => Option (List (List α))) none (fun c => Option.rec (motive := fun _ => Option (List (List α))) none (fun c' => llay r (Nat.div off 16) [c']) (llay c (Nat.mod off 16) [v])) (lat r (Nat.div off 16))
noncomputable def rlay {α : Type} (r : List (List α)) (off : Nat) (vs : List α) : Option (List (List α)) := match vs with
  | [v] => rset r off v
  | vs => match llayQ (rlist r) off vs with | some cs => some (rof cs) | none => none
structure AH where
  t : Tr AO
  n : Nat
noncomputable def asPure {α : Type} (P : Program) : Sem α → Option α
  | .pure a => some a
  | .program k => asPure P (k P)
  | _ => none
noncomputable def AH.row (h : AH) (k : Nat) : Option (List Value) := match h.t.get k with | some (.row cs _) => some cs | some (.ro cs) => some cs | some (.big r) => some (rlist r) | _ => none
noncomputable def AH.new (h : AH) (o : AO) : Option (Nat × AH) := fnat h.n fun k => cond (Nat.ble k 16000000) (some (k, ⟨h.t.put k (some o), Nat.add k 1⟩)) none
noncomputable def AH.lay (h : AH) (k off : Nat) (vs : List Value) : Option AH :=
  match h.t.get k with
  | some (.row cs es) => match llayQ cs off vs with
    | some cs' => some ⟨h.t.put k (some (.row cs' es)), h.n⟩
    | none => none
  | some (.big r) => match rlay r off vs with
    | some r' => some ⟨h.t.put k (some (.big r')), h.n⟩
    | none => none
  | _ => none
noncomputable def flat1 : Value → Bool
  | .bool _ | .int _ _ | .string _ | .pointer none | .map none | .nilFunc | .nilIface => true
  | .slice none 0 0 => true
  | _ => false
noncomputable def cell1 : Value → Bool
  | .agg _ | .tuple _ => false
  | _ => true
noncomputable def cellQ (v : Value) : Bool :=
  Value.rec (motive_1 := fun _ => Bool) (motive_2 := fun _ => Bool) (motive_3 := fun _ => Bool) (fun _ => true) (fun _ _ => true) (fun _ _ => true) (fun _ _ _ => true) (fun _ => true) (fun _ => true) (fun _ _ _ => true) (fun _ => true) (fun _ => true) (fun _ _ _ _ _ => true) true (fun _ _ _ => true) true (fun _ _ => false) (fun _ _ => false) (fun _ _ => true) true (fun _ _ _ _ => true) v
noncomputable def allQ (l : List Value) : Bool := List.rec (motive := fun _ => Bool) true (fun v _ ih => cond (cellQ v) ih false) l
noncomputable def okCells (n : Nat) (l : List Value) : Bool :=
  Nat.rec (motive := fun _ => List Value → Bool) (fun l => List.rec (motive := fun _ => Bool) true (fun _ _ _ => false) l) (fun _ ih l => List.rec (motive := fun _ => Bool) false (fun v t _ => cond (cellQ v) (ih t) false) l) n l
inductive AOut where
  | val (v : Value)
  | eff (v : Value) (h : AH)
  | call (f : FuncId) (args : List Value)
abbrev R := Option AOut
noncomputable def rv (v : OV) : R := Option.rec (motive := fun _ => R) none (fun v => some (.val v)) v
noncomputable def re (v : Value) (h : Option AH) : R := match h with | some h => some (.eff v h) | none => none
noncomputable def aggQ (P : Program) (t : TypeId) : Option Bool :=
  match P.underlying t with
  | some (.struct _) => some true
  | some (.array _ _) => some true
  | some _ => some false
  | none => none
noncomputable def sizeT (P : Program) (t : TypeId) : Option Nat := match P.info? t with | some i => some i.size | none => none
noncomputable def zeroT (P : Program) (t : TypeId) : Option (List Value) := match P.info? t with
  | some i => match i.zero with | some z => cond (z.cells.toList.all flat1 && Nat.beq z.cells.size i.size) (some z.cells.toList) none | none => none
  | none => none
noncomputable def bytesOk (P : Program) (e : TypeId) : Bool := match P.info? e with | some i => Nat.ble i.bytes 10000 && Nat.ble 1 i.size | none => false
noncomputable def placesT (P : Program) (t : TypeId) : Option (List (Nat × Nat)) := match P.underlying t with
  | some (.struct fs) => fs.toList.mapM (fun f => (P.info? f.type).map fun i => (f.offset, i.size))
  | _ => none
noncomputable def elemS (P : Program) (t : TypeId) : Option (TypeId × Nat) := match P.underlying t with
  | some (.slice e) => match sizeT P e with | some n => some (e, n) | none => none
  | _ => none
noncomputable def elemA (P : Program) (t : TypeId) : Option (Nat × TypeId × Nat) := match P.underlying t with
  | some (.array n e) => match sizeT P e with | some s => some (n, e, s) | none => none
  | _ => none
noncomputable def fieldOff (P : Program) (s : TypeId) (f : Nat) : Option (Nat × TypeId × Nat) :=
  match P.underlying s with
  | some (.struct fs) => match fs[f]? with
    | some x => match sizeT P x.type with | some n => some (x.offset, x.type, n) | none => none
    | none => none
  | _ => none
noncomputable def enters (P : Program) (f : FuncId) : Bool := match P.funcs[f]? with | some fn => fn.body.isSome && !(fn.name == "runtime.NumGoroutine") | none => false
noncomputable def method1 (P : Program) (t : TypeId) (name : String) : Option FuncId :=
  match P.info? t with
  | some i => match i.methods.find? (·.name == name) with
    | some m => match m.func, m.path.toList with
      | some (f, true), [] => match P.underlying t with | some (.pointer _) => some f | _ => none
      | _, _ => none
    | none => none
  | none => none
noncomputable def isStrT (P : Program) (t : TypeId) : Bool := match P.underlying t with | some .string => true | _ => false
noncomputable def apart (P : Program) (t : TypeId) (cs : List Value) (off : Nat) : OV :=
  match aggQ P t with
  | some true => match sizeT P t with
    | some n => match lsegQ cs off n with | some vs => some (.agg vs.toArray) | none => none
    | none => none
  | some false => lat cs off
  | none => none
noncomputable def abig (P : Program) (t : TypeId) (r : List (List Value)) (off : Nat) : OV :=
  match aggQ P t with
  | some false => rget r off
  | _ => apart P t (rlist r) off
noncomputable def aload (P : Program) (t : TypeId) (x : OV) (h : AH) : OV :=
  match x with
  | some (.pointer (some ⟨k, off, none⟩)) => match h.t.get k with
    | some (.big r) => abig P t r off
    | _ => match h.row k with | some cs => apart P t cs off | none => none
  | _ => none
noncomputable def astore (P : Program) (t : TypeId) (x v : OV) (h : AH) : Option AH :=
  match x, v with
  | some (.pointer (some ⟨k, off, none⟩)), some (.agg vs) => match sizeT P t with
    | some n => cond (okCells n vs.toList) (h.lay k off vs.toList) none
    | none => none
  | some (.pointer (some ⟨k, off, none⟩)), some v => match sizeT P t with
    | some n => cond (Nat.beq 1 n) (cond (cellQ v) (h.lay k off [v]) none) none
    | none => none
  | _, _ => none
def NOM : Nat := 4611686018427387904
def HALF : Nat := 2305843009213693952
noncomputable def anat (x : Option OV) (d c : Nat) : Option Nat :=
  match x with
  | none => cond (Nat.ble d c) (some d) none
  | some (some (.int _ (.ofNat m))) => cond (Nat.ble m c) (some m) none
  | _ => none
noncomputable def acut (size : Nat) (a : Option Addr) (l h m : Nat) : OV :=
  match a with
  | none => some (.slice none (Nat.sub h l) (Nat.sub m l))
  | some ⟨k, off, none⟩ => fnat (cond (Nat.beq m l) off (Nat.add off (Nat.mul l size))) fun o => fnat (Nat.sub h l) fun n => fnat (Nat.sub m l) fun c => some (.slice (some ⟨k, o, none⟩) n c)
  | _ => none
noncomputable def aslice (size : Nat) (a : Option Addr) (len cap : Nat) (lo hi mx : Option OV) : OV :=
  match mx with
  | none => match anat hi len (cond (Nat.ble HALF cap) len cap) with
    | some h => match anat lo 0 h with
      | some l => cond (cond (Nat.ble HALF cap) (Nat.ble (Nat.add HALF l) cap) true) (acut size a l h cap) none
      | none => none
    | none => none
  | some _ => match anat mx 0 (cond (Nat.ble HALF cap) len cap) with
    | some m => match hi with
      | none => none
      | some _ => match anat hi 0 m with
        | some h => match anat lo 0 h with
          | some l => cond (Nat.blt m HALF) (acut size a l h m) none
          | none => none
        | none => none
    | none => none
noncomputable def aelems (size n : Nat) (h : AH) : Value → Option (List Value)
  | .slice none _ _ => cond (Nat.beq n 0) (some []) none
  | .slice (some ⟨k, off, none⟩) _ _ => match h.row k with | some cs => lseg cs off (Nat.mul n size) | none => none
  | _ => none
noncomputable def anews (P : Program) (e : TypeId) (size : Nat) (zs : Bool) (x : Value) (h : AH) : Option (Nat × List Value) :=
  match zs, x with
  | true, .int _ (.ofNat n) => match zeroT P e with | some z => some (n, azeros z n) | none => none
  | false, .slice a n c => match aelems size n h (.slice a n c) with | some vs => some (n, vs) | none => none
  | _, _ => none
noncomputable def agrow (h : AH) (size len : Nat) (vs : List Value) : Option (Value × AH) :=
  match h.new (.row vs size) with
  | some (k, h') => fnat len fun len => some (.slice (some ⟨k, 0, none⟩) len NOM, h')
  | none => none
noncomputable def aappend2 (size : Nat) (a : Option Addr) (len cap n : Nat) (vs : List Value) (h : AH) : Option (Value × AH) :=
  match a with
  | none => agrow h size n vs
  | some ⟨k, off, none⟩ => match h.t.get k with
    | some (.row cs es) => match lseg cs off (Nat.mul len size) with
      | some old => cond (Nat.beq es 0 || not (Nat.ble HALF cap))
          (cond (Nat.ble (Nat.add len n) cap) none (agrow h size (Nat.add len n) (old ++ vs)))
          (cond (Nat.beq es size && (Nat.ble HALF cap && Nat.beq (Nat.add off (Nat.mul cap size)) (Nat.mul NOM size))) (agrow ⟨h.t.put k none, h.n⟩ size (Nat.add len n) (old ++ vs)) none)
      | none => none
    | some (.ro cs) => match lseg cs off (Nat.mul len size) with
      | some old => cond (Nat.ble (Nat.add len n) cap) none (agrow h size (Nat.add len n) (old ++ vs))
      | none => none
    | some (.big r) => match lseg (rlist r) off (Nat.mul len size) with
      | some old => cond (Nat.ble (Nat.add len n) cap) none (agrow h size (Nat.add len n) (old ++ vs))
      | none => none
    | _ => none
  | _ => none
noncomputable def aappend (P : Program) (ts : TypeId) (zs : Bool) (s x : Value) (h : AH) : Option (Value × AH) :=
  match elemS P ts, s with
  | some (e, size), .slice a len cap => match anews P e size zs x h with
    | some (n, vs) => cond (Nat.beq n 0) (some (.slice a len cap, h)) (cond (allQ vs && Nat.ble (Nat.add len n) 1000000 && bytesOk P e) (cond (zs && a.isSome || not (zeroT P e).isSome) none (aappend2 size a len cap n vs h)) none)
    | none => none
  | _, _ => none
noncomputable def kIdx : IntKind → Nat
  | .i8 => 0 | .i16 => 1 | .i32 => 2 | .i64 => 3 | .u8 => 4 | .u16 => 5 | .u32 => 6 | .u64 => 7
def keyTs : List Nat := [3, 5, 134, 207, 241]
noncomputable def flatK (v : Value) : Bool := match v with | .int _ _ => true | .agg cs => cs.toList.all flat1 | _ => false
noncomputable def limK : IntKind → Nat
  | .i8 => 127 | .i16 => 32767 | .i32 => 2147483647 | .i64 => 9223372036854775807
  | .u8 => 255 | .u16 => 65535 | .u32 => 4294967295 | .u64 => 18446744073709551615
noncomputable def isI (k : IntKind) (v : Value) : Bool := match v with | .int j (.ofNat m) => cond (Nat.beq (kIdx j) (kIdx k)) (Nat.ble m (limK k)) false | .int j (.negSucc m) => cond (Nat.beq (kIdx j) (kIdx k)) (cond (Nat.ble (kIdx k) 3) (Nat.ble m (limK k)) false) false | _ => false
noncomputable def isIs (k : IntKind) (n : Nat) (v : Value) : Bool := match v with
  | .agg cs => (match n, cs.toList with
    | 1, [x] => isI k x
    | 2, [x, y] => cond (isI k x) (isI k y) false
    | _, _ => false)
  | _ => false
noncomputable def keyQ (kt : Nat) (v : Value) : Bool := cond (Nat.beq kt 134) (isIs .i64 1 v) (cond (Nat.beq kt 207) (isIs .u8 2 v) (cond (Nat.beq kt 5) (isI .u8 v) (cond (Nat.beq kt 3) (isI .i64 v) (cond (Nat.beq kt 241) (isIs .i64 2 v) false))))
noncomputable def intNe (a b : Value) : Bool := match a, b with | .int _ x, .int _ y => !decide (x = y) | _, _ => false
noncomputable def intsNe : List Value → List Value → Bool
  | a :: l, b :: m => intNe a b || intsNe l m
  | _, _ => false
noncomputable def keyNe (a b : Value) : Bool := match a, b with
  | .agg x, .agg y => intsNe x.toList y.toList
  | a, b => intNe a b
noncomputable def intEq (a b : Value) : Bool := match a, b with | .int k x, .int l y => Nat.beq (kIdx k) (kIdx l) && decide (x = y) | _, _ => false
noncomputable def intsEq : List Value → List Value → Bool
  | [], [] => true
  | a :: l, b :: m => intEq a b && intsEq l m
  | _, _ => false
noncomputable def keyEq (a b : Value) : Bool := match a, b with
  | .agg x, .agg y => intsEq x.toList y.toList
  | a, b => intEq a b
noncomputable def mfind (k : Value) : List (Value × Value) → OV
  | [] => none
  | p :: l => cond (keyEq k p.1) (some p.2) (mfind k l)
noncomputable def mapT2 (P : Program) (t : TypeId) : Option (TypeId × TypeId) := match P.underlying t with
  | some (.map k v) => cond (keyTs.contains k) (some (k, v)) none
  | _ => none
abbrev Tm := Tr Value
def SB : Nat := 1500000
noncomputable def oget (v : OV) : Value := Option.rec (motive := fun _ => Value) undef (fun v => v) v
noncomputable def tget (t : Tm) (i : Nat) : Value := oget (t.get i)
inductive CV where
  | t (p : Pa)
  | k (v : OV)
noncomputable def cv (x : Operand) : CV := match x with
  | .tmp i => cond (Nat.ble i 1000000) (.t (pa 24 i)) (.k none)
  | .const v => .k (cond (flat1 v) (some v) none)
  | .global _ => .k none
  | .func f => .k (some (.func (.func f) #[] #[]))
noncomputable def aev (t : Tm) (x : Operand) : OV := CV.rec (motive := fun _ => OV) (fun p => some (oget (Tr.at p t))) (fun v => v) (cv x)
abbrev Ev := Operand → OV
noncomputable def parts (ev : Ev) : List (Nat × Operand) → Option (List (Nat × Value))
  | [] => some []
  | (i, x) :: l => match ev x, parts ev l with | some v, some m => some ((i, v) :: m) | _, _ => none
noncomputable def evs (ev : Ev) : List Operand → Option (List Value)
  | [] => some []
  | x :: l => match ev x, evs ev l with | some v, some m => some (v :: m) | _, _ => none
noncomputable def evsQ (ev : Ev) (l : List Operand) : Option (List Value) :=
  List.rec (motive := fun _ => Option (List Value)) (some []) (fun x _ ih => Option.rec (motive := fun _ => Option (List Value)) none (fun v => Option.rec (motive := fun _ => Option (List Value)) none (fun m => some (v :: m)) ih) (ev x)) l
noncomputable def afill (place : Nat → Option (Nat × Nat)) : List (Nat × Value) → List Value → Option (List Value)
  | [], cs => some cs
  | (i, v) :: l, cs => match place i with
    | some (off, size) => cond (Nat.beq v.cells.size size) (match llay cs off v.cells.toList with | some cs' => afill place l cs' | none => none) none
    | none => none
noncomputable def placeF (pl : List (Nat × Nat)) (j : Nat) : Option (Nat × Nat) := lat pl j
noncomputable def placeE (n j : Nat) : Option (Nat × Nat) := some (Nat.mul j n, n)
noncomputable def oInt (k : IntKind) (n : Nat) : OV := fnat n fun n => cond (Nat.ble n (limK k)) (some (.int k (.ofNat n))) none
noncomputable def oNats (op : BinOp) (k : IntKind) (a b : Nat) : OV :=
  match op with
  | .add => oInt k (Nat.add a b)
  | .sub => cond (Nat.ble b a) (oInt k (Nat.sub a b)) none
  | .mul => oInt k (Nat.mul a b)
  | .eql => some (.bool (Nat.beq a b))
  | .neq => some (.bool (not (Nat.beq a b)))
  | .lss => some (.bool (Nat.blt a b))
  | .leq => some (.bool (Nat.ble a b))
  | .gtr => some (.bool (Nat.blt b a))
  | .geq => some (.bool (Nat.ble b a))
  | _ => none
noncomputable def pureV (P : Program) (x : Sem Value) : OV := match asPure P x with | some v => cond (flat1 v) (fval v) none | none => none
noncomputable def oIntsSlow (P : Program) (op : BinOp) (t : TypeId) (k l : IntKind) (a b : Int) : OV := pureV P (binOp op t (.int k a) (.int l b))
noncomputable def oOr (x y : OV) : OV := match x with | some v => some v | none => y
noncomputable def oInts (P : Program) (op : BinOp) (t : TypeId) (k l : IntKind) (a b : Int) : OV :=
  match a with
  | .ofNat m => (match b with
    | .ofNat n => cond (Nat.beq (kIdx k) (kIdx l)) (oOr (oNats op k m n) (oIntsSlow P op t k l (.ofNat m) (.ofNat n))) (oIntsSlow P op t k l (.ofNat m) (.ofNat n))
    | b => oIntsSlow P op t k l (.ofNat m) b)
  | a => oIntsSlow P op t k l a b
noncomputable def isBoolT (P : Program) (t : TypeId) : Bool := match P.underlying t with | some .bool => true | _ => false
noncomputable def oBools (P : Program) (op : BinOp) (t : TypeId) (a b : Bool) : OV := cond (isBoolT P t) (match op with | .eql => some (.bool (a == b)) | .neq => some (.bool (!(a == b))) | _ => none) none
noncomputable def nilEq (P : Program) (t : TypeId) (kc : Bool) (u v : Value) : Option Bool :=
  match P.underlying t with
  | some (.pointer _) => match u, v with
    | .pointer none, .pointer none => some true
    | .pointer none, .pointer (some _) => some false
    | .pointer (some _), .pointer none => some false
    | _, _ => none
  | some (.slice _) => match u, v with
    | .slice none _ _, .slice none _ _ => some true
    | .slice none _ _, .slice (some _) _ _ => some false
    | .slice (some _) _ _, .slice none _ _ => some false
    | _, _ => none
  | some (.interface _) => match u, v with
    | .nilIface, .nilIface => cond kc (some true) none
    | .nilIface, .iface _ _ => some false
    | .iface _ _, .nilIface => some false
    | _, _ => none
  | some (.func _ _ _) => match u, v with
    | .nilFunc, .nilFunc => some true
    | .nilFunc, .func _ _ _ => some false
    | .func _ _ _, .nilFunc => some false
    | _, _ => none
  | _ => none
noncomputable def oNils (P : Program) (op : BinOp) (t : TypeId) (kc : Bool) (u v : Value) : OV := match nilEq P t kc u v with
  | some b => (match op with
    | .eql => some (.bool b)
    | .neq => some (.bool (!b))
    | _ => none)
  | none => none
noncomputable def oBinI (P : Program) (op : BinOp) (t : TypeId) (k : IntKind) (a : Int) (v : Value) : OV := match v with
  | .int l b => oInts P op t k l a b
  | _ => none
noncomputable def oBinB (P : Program) (op : BinOp) (t : TypeId) (a : Bool) (v : Value) : OV := match v with
  | .bool b => oBools P op t a b
  | _ => none
noncomputable def beqs : List UInt8 → List UInt8 → Bool
  | [], [] => true
  | a :: l, b :: m => Nat.beq a.toNat b.toNat && beqs l m
  | _, _ => false
noncomputable def oBinS (op : BinOp) (a : ByteArray) (v : Value) : OV := match v with
  | .string b => match op with
    | .eql => some (.bool (beqs a.data.toList b.data.toList))
    | .neq => some (.bool (!beqs a.data.toList b.data.toList))
    | _ => none
  | _ => none
noncomputable def cmpInt (a b : Value) : Option Bool := match a, b with
  | .int k x, .int l y => cond (Nat.beq (kIdx k) (kIdx l)) (some (decide (x = y))) none
  | _, _ => none
noncomputable def cmpB (x : Option Bool) (y : Option Bool) : Option Bool := Option.rec (motive := fun _ => Option Bool) none (fun b => cond b y (some false)) x
noncomputable def cmpInts (l : List Value) : List Value → Option Bool :=
  List.rec (motive := fun _ => List Value → Option Bool) (fun m => List.rec (motive := fun _ => Option Bool) (some true) (fun _ _ _ => none) m)
    (fun a _ ih m => List.rec (motive := fun _ => Option Bool) none (fun b m _ => cmpB (cmpInt a b) (ih m)) m) l
abbrev Cmp := TypeId → Value → Value → Option Bool
noncomputable def cmpO (C : Cmp) (t : TypeId) (x y : OV) : Option Bool := match x, y with
  | some a, some b => C t a b
  | _, _ => none
noncomputable def cmpItems (P : Program) (C : Cmp) (e : TypeId) (s : Nat) (cs ds : List Value) : Nat → Nat → Option Bool
  | 0, _ => some true
  | n + 1, i => cmpB (cmpO C e (apart P e cs (Nat.mul i s)) (apart P e ds (Nat.mul i s))) (cmpItems P C e s cs ds n (Nat.add i 1))
noncomputable def cmpFields (P : Program) (C : Cmp) (cs ds : List Value) : List Field → Option Bool
  | [] => some true
  | f :: fs => cond (f.name == "_") none (cmpB (cmpO C f.type (apart P f.type cs f.offset) (apart P f.type ds f.offset)) (cmpFields P C cs ds fs))
noncomputable def isIntU (P : Program) (t : TypeId) : Bool := match P.underlying t with | some (.int _) => true | _ => false
noncomputable def cmpArr (P : Program) (C : Cmp) (n : Nat) (e : TypeId) (cs ds : List Value) : Option Bool := match sizeT P e with
  | some s => cond (isIntU P e && Nat.beq s 1) (cond (Nat.beq cs.length n) (cmpInts cs ds) none) (cmpItems P C e s cs ds n 0)
  | none => none
noncomputable def cmpT (P : Program) : Nat → Cmp
  | 0, _, _, _ => none
  | d + 1, t, u, v => match P.underlying t with
    | some .bool => match u, v with | .bool a, .bool b => some (a == b) | _, _ => none
    | some (.int _) => cmpInt u v
    | some (.array n e) => match u, v with | .agg cs, .agg ds => cmpArr P (cmpT P d) n e cs.toList ds.toList | _, _ => none
    | some (.struct fs) => match u, v with | .agg cs, .agg ds => cond (P.stoodInHeld t) none (cmpFields P (cmpT P d) cs.toList ds.toList fs.toList) | _, _ => none
    | _ => none
noncomputable def oAggs (P : Program) (op : BinOp) (t : TypeId) (cs : Array Value) (v : Value) : OV := match v with
  | .agg ds => cond (P.eqGuardType P.depth t) none (match cmpT P 6 t (.agg cs) (.agg ds) with
    | some b => (match op with
      | .eql => some (.bool b)
      | .neq => some (.bool (!b))
      | _ => none)
    | none => none)
  | _ => none
noncomputable def oBinV (P : Program) (op : BinOp) (t : TypeId) (kc : Bool) (u v : Value) : OV := match u with
  | .int k a => oBinI P op t k a v
  | .bool a => oBinB P op t a v
  | .string a => oBinS op a v
  | .agg cs => oAggs P op t cs v
  | u => oNils P op t kc u v
noncomputable def isK (x : Operand) : Bool := match x with | .const _ => true | _ => false
noncomputable def oBin (P : Program) (op : BinOp) (t : TypeId) (kc : Bool) (x y : OV) : OV :=
  match x with
  | some u => (match y with | some v => oBinV P op t kc u v | none => none)
  | none => none
noncomputable def oUn (P : Program) (op : UnOp) (x : OV) : OV :=
  match x with
  | some (.int k a) => pureV P (Op.unary op (.int k a))
  | some (.bool b) => match op with | .not => some (.bool (!b)) | _ => none
  | _ => none
noncomputable def isU8S (P : Program) (t : TypeId) : Bool := match elemS P t with
  | some (e, 1) => match P.underlying e with | some (.int .u8) => true | _ => false
  | _ => false
noncomputable def bytesOf : List Value → Option (List UInt8)
  | [] => some []
  | .int .u8 (.ofNat n) :: l => match bytesOf l with | some m => some (UInt8.ofNat n :: m) | none => none
  | _ :: _ => none
noncomputable def oConvertS (P : Program) (s d : TypeId) (a : Option Addr) (n c : Nat) (h : AH) : R :=
  cond (isU8S P s) (cond (Nat.beq s d) (match a with
    | some ⟨k, off, none⟩ => match h.row k with | some cs => some (.eff (.slice (some ⟨k, off, none⟩) n c) ⟨h.t.put k (some (.ro cs)), h.n⟩) | none => none
    | _ => none) (cond (isStrT P d) (match aelems 1 n h (.slice a n c) with
      | some vs => match bytesOf vs with | some bs => some (.val (.string ⟨bs.toArray⟩)) | none => none
      | none => none) none)) none
noncomputable def oConvert (P : Program) (s d : TypeId) (x : OV) (h : AH) : R := match x with
  | some (.int k a) => rv (pureV P (convert s d (.int k a)))
  | some (.slice a n c) => oConvertS P s d a n c h
  | _ => none
noncomputable def oPick (c a b : OV) : OV := match c with | some (.bool true) => a | some (.bool false) => b | _ => none
noncomputable def oNil (x : OV) : OV := match x with
  | some (.pointer (some a)) => some (.pointer (some a))
  | some (.func (.func f) a b) => some (.func (.func f) a b)
  | some (.iface t v) => some (.iface t v)
  | some (.slice a b c) => some (.slice a b c)
  | _ => none
noncomputable def oNew (h : AH) (cs : List Value) : R := match h.new (mkRow cs) with | some (k, h') => some (.eff (.pointer (some ⟨k, 0, none⟩)) h') | none => none
noncomputable def oAlloc (P : Program) (t : TypeId) (h : AH) : R := match zeroT P t with | some z => oNew h z | none => none
noncomputable def oBox (x : OV) (h : AH) : R := match x with | some v => oNew h v.cells.toList | none => none
noncomputable def oBuild (P : Program) (ev : Ev) (t : TypeId) (ps : List (Nat × Operand)) : OV := match parts ev ps, zeroT P t with
  | some l, some z => match (match elemA P t with | some (_, _, s) => afill (placeE s) l z | none => (match placesT P t with | some pl => afill (placeF pl) l z | none => none)) with
    | some cs => some (.agg cs.toArray)
    | none => none
  | _, _ => none
noncomputable def oSlice (h : AH) (cs : List Value) (n m : Nat) : R := match h.new (mkRow cs) with | some (k, h') => some (.eff (.slice (some ⟨k, 0, none⟩) n m) h') | none => none
noncomputable def oBuildS (P : Program) (ev : Ev) (t : TypeId) (len : Nat) (ps : List (Nat × Operand)) (h : AH) : R := match parts ev ps, elemS P t with
  | some l, some (e, s) => match zeroT P e with
    | some z => match afill (placeE s) l (azeros z len) with
      | some cs => cond (Nat.ble (Nat.mul len s) 16000000 && not (Nat.beq (Nat.mul len s) 0)) (oSlice h cs len len) (match len, l with
          | 0, [] => oSlice h [] 0 0
          | _, _ => none)
      | none => none
    | none => none
  | _, _ => none
noncomputable def oIface (P : Program) (t : TypeId) (x : OV) : OV := match x, P.underlying t with
  | some _, some (.interface _) => none
  | some v, some _ => some (.iface t v)
  | _, _ => none
noncomputable def oFunc (ev : Ev) (fn : Fn) (a b : List Operand) : OV := match evs ev a, evs ev b with
  | some u, some v => some (.func fn u.toArray v.toArray)
  | _, _ => none
noncomputable def oMap (h : AH) : R := match h.new (.mp []) with | some (k, h') => some (.eff (.map (some k)) h') | none => none
noncomputable def oInsert (P : Program) (t : TypeId) (m k x : OV) (h : AH) : R := match m, k, x with
  | some (.map (some r)), some k, some v => match h.t.get r with
    | some (.mp es) => match mapT2 P t with
      | some (kt, _) => cond (keyQ kt k && es.all (fun p => keyQ kt p.1) && es.all (fun p => keyNe p.1 k)) (some (.eff undef ⟨h.t.put r (some (.mp (es ++ [(k, v)]))), h.n⟩)) none
      | none => none
    | _ => none
  | _, _, _ => none
noncomputable def oLookup (P : Program) (t : TypeId) (m k : OV) (ok : Bool) (h : AH) : OV := match m, k with
  | some (.map (some r)), some k => match h.t.get r with
    | some (.mp es) => match mapT2 P t with
      | some (kt, vt) => cond (keyQ kt k && es.all (fun p => keyQ kt p.1)) (match mfind k es with
        | some v => some (cond ok (.tuple [v, .bool true].toArray) v)
        | none => cond (es.all (fun p => keyNe p.1 k)) (match P.info? vt with
          | some i => match i.zero with
            | some z => cond (flat1 z) (some (cond ok (.tuple [z, .bool false].toArray) z)) none
            | none => none
          | none => none) none) none
      | none => none
    | _ => none
  | _, _ => none
noncomputable def oMakeS (P : Program) (t : TypeId) (l c : OV) (h : AH) : R := match l, c, elemS P t with
  | some (.int _ (.ofNat n)), some (.int _ (.ofNat m)), some (e, s) => match zeroT P e with
    | some z => cond (Nat.ble n m && Nat.ble (Nat.mul m s) 1000000 && Nat.ble m 1000000 && bytesOk P e) (oSlice h (azeros z m) n m) none
    | none => none
  | _, _, _ => none
noncomputable def oReslice (P : Program) (t : TypeId) (x : OV) (lo hi mx : Option OV) : OV := match x with
  | some (.slice a len cap) => match elemS P t with | some (_, s) => aslice s a len cap lo hi mx | none => none
  | some (.pointer (some a)) => match elemA P t with | some (n, _, s) => cond (Nat.blt n HALF) (aslice s (some a) n n lo hi mx) none | none => none
  | _ => none
noncomputable def oFieldAddr (P : Program) (s : TypeId) (x : OV) (f : Nat) : OV := match x, fieldOff P s f with
  | some (.pointer (some ⟨k, off, none⟩)), some (d, _, n) => cond (Nat.beq n 0) none (fnat (Nat.add off d) fun o => some (.pointer (some ⟨k, o, none⟩)))
  | _, _ => none
noncomputable def oField (P : Program) (s : TypeId) (x : OV) (f : Nat) : OV := match x, fieldOff P s f with
  | some (.agg cs), some (d, t, _) => apart P t cs.toList d
  | _, _ => none
noncomputable def oElem (k off j s n : Nat) : OV := cond (Nat.blt j n) (fnat (Nat.add off (Nat.mul j s)) fun o => some (.pointer (some ⟨k, o, none⟩))) none
noncomputable def oIndexAddr (P : Program) (t : TypeId) (x i : OV) : OV := match x, i with
  | some (.pointer (some ⟨k, off, none⟩)), some (.int _ (.ofNat j)) => match elemA P t with | some (n, _, s) => oElem k off j s n | none => none
  | some (.slice (some ⟨k, off, none⟩) n _), some (.int _ (.ofNat j)) => match elemS P t with | some (_, s) => oElem k off j s n | none => none
  | _, _ => none
noncomputable def oIndex (P : Program) (t : TypeId) (x i : OV) : OV := match x, i with
  | some (.string b), some (.int _ (.ofNat j)) => cond (isStrT P t) (match lat b.data.toList j with | some y => some (.int .u8 (.ofNat y.toNat)) | none => none) none
  | some (.agg cs), some (.int _ (.ofNat j)) => match elemA P t with
    | some (n, e, s) => cond (Nat.blt j n) (apart P e cs.toList (Nat.mul j s)) none
    | none => none
  | _, _ => none
noncomputable def oExtract (x : OV) (i : Nat) : OV := match x with | some (.tuple vs) => lat vs.toList i | _ => none
noncomputable def oCallV (P : Program) (f : OV) (l : List Value) : R := match f with
  | some (.func (.func k) a b) => cond (enters P k) (some (.call k (a.toList ++ (l ++ b.toList)))) none
  | _ => none
noncomputable def oInvoke (P : Program) (x : OV) (name : String) (l : List Value) : R := match x with
  | some (.iface t v) => match method1 P t name with
    | some k => cond (enters P k) (some (.call k (v :: l))) none
    | none => none
  | _ => none
noncomputable def isIntT (P : Program) (t : TypeId) : Bool := match P.underlying t with | some (.int _) => true | _ => false
noncomputable def oAppend (P : Program) (ts : List TypeId) (l : List Value) (h : AH) : R := match ts, l with
  | [t, tx], [s, x] => match cond (isIntT P tx) (aappend P t true s x h) (cond (Nat.beq t tx) (aappend P t false s x h) none) with
    | some (v, h') => some (.eff v h')
    | none => none
  | _, _ => none
noncomputable def oCopy (P : Program) (ts : List TypeId) (l : List Value) (h : AH) : R := match ts, l with
  | t :: _, [.slice a n _, .slice b m d] => match elemS P t with
    | some (_, s) => fnat (cond (Nat.ble m n) m n) fun k => cond (Nat.beq k 0) (some (.val (.int .i64 0))) (match aelems s k h (.slice b m d), a with
        | some vs, some ⟨r, off, none⟩ => cond (allQ vs) (re (.int .i64 (.ofNat k)) (h.lay r off vs)) none
        | _, _ => none)
    | none => none
  | _, _ => none
noncomputable def oClear (P : Program) (ts : List TypeId) (l : List Value) (h : AH) : R := match ts, l with
  | t :: _, [.slice (some ⟨r, off, none⟩) n _] => match elemS P t with
    | some (e, _) => match zeroT P e with
      | some z => cond (Nat.beq n 0) (some (.val undef)) (cond (allQ (azeros z n)) (re undef (h.lay r off (azeros z n))) none)
      | none => none
    | none => none
  | _, _ => none
noncomputable def oLen (P : Program) (ts : List TypeId) (l : List Value) (h : AH) : OV := match ts, l with
  | t :: _, [.map (some r)] => match h.t.get r with
    | some (.mp es) => match P.underlying t with | some (.map _ _) => fnat es.length fun n => some (.int .i64 (.ofNat n)) | _ => none
    | _ => none
  | t :: _, [.string s] => match P.underlying t with | some .string => fnat s.size fun n => some (.int .i64 (.ofNat n)) | _ => none
  | t :: _, [.slice _ n _] => match P.underlying t with | some (.slice _) => some (.int .i64 (.ofNat n)) | _ => none
  | _, _ => none
noncomputable def oCap (P : Program) (ts : List TypeId) (l : List Value) : OV := match ts, l with
  | t :: _, [.slice _ _ c] => cond (Nat.ble HALF c) none (match P.underlying t with | some (.slice _) => some (.int .i64 (.ofNat c)) | _ => none)
  | _, _ => none
noncomputable def oMax (big : Bool) (l : List Value) : OV := match l with
  | [.int k x, .int _ y] => some (.int k (cond (cond big (decide (y > x)) (decide (y < x))) y x))
  | _ => none
noncomputable def oBuiltin (P : Program) (b : Builtin) (ts : List TypeId) (l : List Value) (h : AH) : R := match b with
  | .len => rv (oLen P ts l h)
  | .max => rv (oMax true l)
  | .min => rv (oMax false l)
  | .append => oAppend P ts l h
  | .copy => oCopy P ts l h
  | .clear => oClear P ts l h
  | .cap => rv (oCap P ts l)
  | _ => none
noncomputable def oCall (P : Program) (ev : Ev) (c : Call) (h : AH) : R := match evsQ ev c.args.toList with
  | some l => match c.callee with
    | .value f => oCallV P (ev f) l
    | .invoke x name => oInvoke P (ev x) name l
    | .builtin b => oBuiltin P b c.argTypes.toList l h
  | none => none
noncomputable def omap (ev : Ev) (x : Option Operand) : Option OV := match x with | some x => some (ev x) | none => none
inductive CO where
  | mk (f : Program → Ev → AH → R)
noncomputable def co (o : Op) : CO :=
  match o with
  | .move x => .mk fun _ ev _ => rv (ev x)
  | .assign x => .mk fun _ ev _ => rv (ev x)
  | .pick c a b => .mk fun _ ev _ => rv (oPick (ev c) (ev a) (ev b))
  | .nilCheck x => .mk fun _ ev _ => rv (oNil (ev x))
  | .alloc t => .mk fun P _ h => oAlloc P t h
  | .box _ x => .mk fun _ ev h => oBox (ev x) h
  | .build t ps => .mk fun P ev _ => rv (oBuild P ev t ps.toList)
  | .buildSlice t len ps => .mk fun P ev h => oBuildS P ev t len ps.toList h
  | .load t a => .mk fun P ev h => rv (aload P t (ev a) h)
  | .store t a x => .mk fun P ev h => re undef (astore P t (ev a) (ev x) h)
  | .binOp op t x y _ => .mk fun P ev _ => rv (oBin P op t (isK x || isK y) (ev x) (ev y))
  | .unOp op _ x => .mk fun P ev _ => rv (oUn P op (ev x))
  | .convert s d x => .mk fun P ev h => oConvert P s d (ev x) h
  | .makeInterface t x => .mk fun P ev _ => rv (oIface P t (ev x))
  | .makeFunc fn a b => .mk fun _ ev _ => rv (oFunc ev fn a.toList b.toList)
  | .makeMap _ none => .mk fun _ _ h => oMap h
  | .mapUpdate t m k x => .mk fun P ev h => oInsert P t (ev m) (ev k) (ev x) h
  | .insert t m k x => .mk fun P ev h => oInsert P t (ev m) (ev k) (ev x) h
  | .lookup t m k ok => .mk fun P ev h => rv (oLookup P t (ev m) (ev k) ok h)
  | .makeSlice t l c => .mk fun P ev h => oMakeS P t (ev l) (ev c) h
  | .slice t x lo hi mx => .mk fun P ev _ => rv (oReslice P t (ev x) (omap ev lo) (omap ev hi) (omap ev mx))
  | .fieldAddr s x f => .mk fun P ev _ => rv (oFieldAddr P s (ev x) f)
  | .field s x f => .mk fun P ev _ => rv (oField P s (ev x) f)
  | .indexAddr t x i => .mk fun P ev _ => rv (oIndexAddr P t (ev x) (ev i))
  | .index t x i => .mk fun P ev _ => rv (oIndex P t (ev x) (ev i))
  | .extract x i => .mk fun _ ev _ => rv (oExtract (ev x) i)
  | .call c => .mk fun P ev h => oCall P ev c h
  | _ => .mk fun _ _ _ => none
noncomputable def aop (P : Program) (ev : Ev) (o : Op) (h : AH) : R := CO.rec (motive := fun _ => R) (fun f => f P ev h) (co o)
inductive AX where
  | normal
  | exit (id : Nat)
  | goto (l : Nat)
  | ret
abbrev ACall := FuncId → List Value → AH → Option (Value × AH)
noncomputable def isB (want : Bool) (v : Value) : Bool := match v with | .bool b => b == want | _ => false
noncomputable def awant (ops : Array Oper) (t : Tm) (g : Option (Nat × Bool)) : Option Bool :=
  match g with
  | none => some true
  | some (j, want) => match ops[j]? with
    | some p => match p.dst with
      | some d => cond (Nat.ble d 1000000) (some (isB want (tget t d))) none
      | none => some false
    | none => some false
noncomputable def aFin (nt : Nat) (t : Tm) (d : Option Tmp) (v : Value) (h : AH) : Option (Tm × AH) :=
  Option.rec (motive := fun _ => Option (Tm × AH)) (some (t, h)) (fun d => cond (Nat.ble (Nat.succ d) nt) (some (t.put d (some v), h)) none) d
noncomputable def aFin2 (nt : Nat) (t : Tm) (d : Option Tmp) (x : Option (Value × AH)) : Option (Tm × AH) :=
  Option.rec (motive := fun _ => Option (Tm × AH)) none (fun p => Prod.rec (motive := fun _ => Option (Tm × AH)) (fun v h => aFin nt t d v h) p) x
noncomputable def aRes (C : ACall) (nt : Nat) (t : Tm) (d : Option Tmp) (h : AH) (r : AOut) : Option (Tm × AH) :=
  AOut.rec (motive := fun _ => Option (Tm × AH)) (fun v => aFin nt t d v h) (fun v h' => aFin nt t d v h') (fun f args => aFin2 nt t d (C f args h)) r
noncomputable def astep (P : Program) (C : ACall) (ops : Array Oper) (nt : Nat) (o : Oper) (t : Tm) (h : AH) : Option (Tm × AH) :=
  Option.rec (motive := fun _ => Option (Tm × AH)) none (fun b => cond b (Option.rec (motive := fun _ => Option (Tm × AH)) none (fun r => aRes C nt t o.dst h r) (aop P (aev t) o.op h)) (aFin nt t o.dst undef h)) (awant ops t o.guard)
noncomputable def aops (P : Program) (C : ACall) (ops : Array Oper) (nt : Nat) (l : List Oper) : Tm → AH → Option (Tm × AH) :=
  List.rec (motive := fun _ => Tm → AH → Option (Tm × AH)) (fun t h => some (t, h)) (fun o _ ih t h => Option.rec (motive := fun _ => Option (Tm × AH)) none (fun p => Prod.rec (motive := fun _ => Option (Tm × AH)) (fun t' h' => ih t' h') p) (astep P C ops nt o t h)) l
noncomputable def isEffO (o : Op) : Bool := match o with
  | .alloc _ => true
  | .box _ _ => true
  | .buildSlice _ _ _ => true
  | .store _ _ _ => true
  | .makeMap _ _ => true
  | .insert _ _ _ _ => true
  | .mapUpdate _ _ _ _ => true
  | .convert s d _ => Nat.beq s d
  | .makeSlice _ _ _ => true
  | .call c => match c.callee with
    | .builtin .len => false
    | .builtin .max => false
    | .builtin .min => false
    | _ => true
  | _ => false
noncomputable def isMemO (o : Op) : Bool := match o with
  | .load _ _ => true
  | .lookup _ _ _ _ => true
  | .convert s d _ => not (Nat.beq s d)
  | .call c => match c.callee with | .builtin .len => true | _ => false
  | _ => false
noncomputable def tmpsOf : List Operand → List Nat
  | [] => []
  | .tmp i :: l => i :: tmpsOf l
  | _ :: l => tmpsOf l
noncomputable def guardT (ops : Array Oper) (g : Option (Nat × Bool)) : List Nat := match g with
  | some (j, _) => match ops[j]? with | some p => p.dst.toList | none => []
  | none => []
noncomputable def onames (ops : Array Oper) (o : Oper) : List Nat := guardT ops o.guard ++ tmpsOf o.op.operands.toList
noncomputable def hasN (l : List Nat) (n : Nat) : Bool := List.rec (motive := fun _ => Bool) false (fun m _ ih => cond (Nat.beq m n) true ih) l
noncomputable def aevR (ns : List Nat) (t : Tm) (x : Operand) : OV := match x with
  | .tmp i => cond (hasN ns i) (aev t (.tmp i)) none
  | .const v => aev t (.const v)
  | .global _ => none
  | .func f => aev t (.func f)
noncomputable def dEval (P : Program) (C : ACall) (ns : List Nat) (o : Op) (t : Tm) (h : AH) : Option (Value × AH) :=
  match aop P (aevR ns t) o h with
  | some (.val v) => some (v, h)
  | some (.eff v h') => cond (isEffO o) (some (v, h')) none
  | some (.call f args) => cond (isEffO o) (C f args h) none
  | none => none
structure DRec where
  t : Tm
  want : Bool
  v : Value
noncomputable def dput (nt : Nat) (t : Tm) (d : Option Tmp) (v : Value) : Option Tm :=
  match d with
  | none => some t
  | some d => cond (Nat.ble (Nat.succ d) nt) (some (t.put d (some v))) none
noncomputable def dstepQ (P : Program) (C : ACall) (ops : Array Oper) (o : Oper) (t : Tm) (h : AH) : Option (Bool × Value × AH) :=
  match awant ops t o.guard with
  | some false => some (false, undef, h)
  | some true => match dEval P C (onames ops o) o.op t h with | some (v, h') => some (true, v, h') | none => none
  | none => none
noncomputable def dcons (r : DRec) (e : Bool) (h : AH) (x : Option (List DRec × List AH × Tm)) : Option (List DRec × List AH × Tm) :=
  match x with
  | some (rs, hs, tf) => some (r :: rs, cond e (h :: hs) hs, tf)
  | none => none
noncomputable def drun (P : Program) (C : ACall) (ops : Array Oper) (nt : Nat) : List Oper → Tm → AH → Option (List DRec × List AH × Tm)
  | [], t, _ => some ([], [], t)
  | o :: l, t, h => match dstepQ P C ops o t h with
    | some (b, v, h') => match dput nt t o.dst v with
      | some t' => dcons ⟨t, b, v⟩ (isEffO o.op) h' (drun P C ops nt l t' (cond (isEffO o.op) h' h))
      | none => none
    | none => none
noncomputable def drunQ (P : Program) (C : ACall) (ops : Array Oper) (nt : Nat) (l : List Oper) : Tm → AH → Option (List DRec × List AH × Tm) :=
  List.rec (motive := fun _ => Tm → AH → Option (List DRec × List AH × Tm)) (fun t _ => some ([], [], t))
    (fun o _ ih t h => Option.rec (motive := fun _ => Option (List DRec × List AH × Tm)) none
      (fun p => Prod.rec (motive := fun _ => Option (List DRec × List AH × Tm)) (fun b q => Prod.rec (motive := fun _ => Option (List DRec × List AH × Tm)) (fun v h' =>
        Option.rec (motive := fun _ => Option (List DRec × List AH × Tm)) none (fun t' => dcons ⟨t, b, v⟩ (isEffO o.op) h' (ih t' (cond (isEffO o.op) h' h))) (dput nt t o.dst v)) q) p)
      (dstepQ P C ops o t h)) l
noncomputable def mkof (acc : List Nat) : List Edge → Nat
  | [] => 0
  | e :: es => cond (Region.binds .any e) (Nat.lor (mkof acc es) (Nat.lor (Nat.pow 2 e.on) (acc.getD e.on 0))) (mkof acc es)
noncomputable def mks : List Oper → List Nat → List Nat
  | [], acc => acc
  | o :: l, acc => mks l (acc ++ [mkof acc o.after.toList])
noncomputable def getN (M : List Nat) (i : Nat) : Nat := Option.rec (motive := fun _ => Nat) 0 (fun m => m) (lat M i)
noncomputable def bitQ (M : List Nat) (i j : Nat) : Bool := Nat.beq (Nat.land (Nat.shiftRight (getN M i) j) 1) 1
noncomputable def mkofQ (acc : List Nat) (es : List Edge) : Nat :=
  List.rec (motive := fun _ => Nat) 0 (fun e _ ih => cond (Region.binds .any e) (fnat ih fun m => fnat (Nat.lor m (Nat.lor (Nat.pow 2 e.on) (getN acc e.on))) fun k => k) ih) es
noncomputable def mksQ (l : List Oper) : List Nat → List Nat :=
  List.rec (motive := fun _ => List Nat → List Nat) (fun acc => acc) (fun o _ ih acc => fnat (mkofQ acc o.after.toList) fun m => ih (app acc [m])) l
noncomputable def allI {α : Type} (p : Nat → α → Bool) (l : List α) : Nat → Bool :=
  List.rec (motive := fun _ => Nat → Bool) (fun _ => true) (fun a _ ih i => cond (p i a) (fnat (Nat.add i 1) fun j => ih j) false) l
noncomputable def waitsB (o : Oper) (i : Nat) : Bool := o.after.toList.all fun e => !Region.binds .any e || Nat.blt e.on i
noncomputable def early1 (o : Oper) : Bool := match o.op, o.guard with
  | .alloc _, none => true
  | _, _ => false
noncomputable def dstatQ (ops : Array Oper) (q : Nat) : Bool :=
  let l := ops.toList
  let M := mksQ l []
  allI (fun i o => waitsB o i && (cond (Nat.beq i q) (early1 o) true && (cond (bitQ M i q) (allI (fun j p => !(isEffO p.op && Nat.blt j q) || bitQ M i j) l 0) true && allI (fun j p =>
    (Nat.beq i j || !(match o.dst, p.dst with | some a, some b => Nat.beq a b | _, _ => false)) &&
    (match p.dst with | some d => !hasN (onames ops o) d || (Nat.beq j i || cond (Nat.blt j i) (bitQ M i j) (bitQ M j i)) | none => true) &&
    (!(isEffO o.op && isEffO p.op && Nat.blt j i) || (bitQ M i j || Nat.beq i q))) l 0))) l 0
noncomputable def anyQ (p : Nat → Oper → Bool) : List Oper → Nat → Bool
  | [], _ => false
  | o :: l, i => cond (p i o) true (anyQ p l (Nat.add i 1))
noncomputable def dstat (ops : Array Oper) : Bool := cond (dstatQ ops ops.size) true (anyQ (fun i o => early1 o && dstatQ ops i) ops.toList 0)
noncomputable def countE : List Oper → Nat → Nat
  | [], _ => 0
  | _ :: _, 0 => 0
  | o :: l, n + 1 => cond (isEffO o.op) (Nat.add (countE l n) 1) (countE l n)
noncomputable def possib (l : List Oper) (M : List Nat) (i p : Nat) : Bool :=
  allI (fun j o => !isEffO o.op || cond (Nat.blt (countE l j) p) (!bitQ M j i) (!bitQ M i j)) l 0
noncomputable def oaeq (a b : Option Addr) : Bool := match a, b with
  | none, none => true
  | some ⟨k, o, none⟩, some ⟨l, q, none⟩ => Nat.beq k l && Nat.beq o q
  | _, _ => false
noncomputable def veq1 (a b : Value) : Bool := match a, b with
  | .int k x, .int l y => Nat.beq (kIdx k) (kIdx l) && decide (x = y)
  | .bool x, .bool y => x == y
  | .pointer x, .pointer y => oaeq x y
  | .slice x n c, .slice y m d => oaeq x y && Nat.beq n m && Nat.beq c d
  | .nilIface, .nilIface => true
  | .iface t (.pointer x), .iface u (.pointer y) => Nat.beq t u && oaeq x y
  | .map (some x), .map (some y) => Nat.beq x y
  | .nilFunc, .nilFunc => true
  | .func (.func f) a b, .func (.func g) c d => Nat.beq f g && (match a.toList, c.toList, b.toList, d.toList with
    | [], [], [], [] => true
    | [.pointer x], [.pointer y], [], [] => oaeq x y
    | _, _, _, _ => false)
  | _, _ => false
noncomputable def veqs : List Value → List Value → Bool
  | [], [] => true
  | a :: l, b :: m => veq1 a b && veqs l m
  | _, _ => false
noncomputable def veq (a b : Value) : Bool := match a, b with
  | .agg x, .agg y => veqs x.toList y.toList
  | a, b => veq1 a b
noncomputable def dchk1 (P : Program) (ns : List Nat) (o : Op) (r : DRec) (poss : Nat → Bool) : List AH → Nat → Bool
  | [], _ => true
  | h :: hs, p => cond (poss p) (match aop P (aevR ns r.t) o h with | some (.val v) => veq v r.v | _ => false) true && dchk1 P ns o r poss hs (Nat.add p 1)
noncomputable def dchk (P : Program) (ops : Array Oper) (l : List Oper) (M : List Nat) (hs : List AH) : List Oper → List DRec → Nat → Bool
  | [], _, _ => true
  | _ :: _, [], _ => false
  | o :: m, r :: rs, i => cond (isMemO o.op && r.want) (dchk1 P (onames ops o) o.op r (possib l M i) hs 0) true && dchk P ops l M hs m rs (Nat.add i 1)
noncomputable def lastH : AH → List AH → AH
  | h, [] => h
  | _, h :: hs => lastH h hs
noncomputable def plainV (v : Value) : Bool := match v with
  | .agg cs => cs.toList.all flat1
  | v => flat1 v
noncomputable def plainT (v : Value) : Bool := match v with
  | .tuple vs => vs.toList.all plainV
  | v => plainV v
noncomputable def isPureC (o : Op) : Bool := match o with
  | .call c => (match c.callee, c.args.toList with | .value _, [] => true | _, _ => false)
  | _ => false
noncomputable def quietO (o : Op) : Bool := isPureC o || not (isEffO o || isMemO o)
noncomputable def isIns (T m : Nat) (o : Oper) : Bool := match o.op, o.guard, o.dst with
  | .insert t (.tmp n) _ _, none, none => Nat.beq t T && Nat.beq n m
  | _, _, _ => false
noncomputable def isMk (o : Oper) : Option (Nat × Nat) := match o.op, o.guard, o.dst with
  | .makeMap T none, none, some m => some (T, m)
  | _, _, _ => none
noncomputable def mstatM (ops : Array Oper) (T m : Nat) : Bool :=
  let l := ops.toList
  let M := mksQ l []
  allI (fun i o => waitsB o i && (cond (Nat.beq i 0) true (cond (isIns T m o) (bitQ M i 0) (quietO o.op)) && allI (fun j p =>
    (Nat.beq i j || !(match o.dst, p.dst with | some a, some b => Nat.beq a b | _, _ => false)) &&
    (match p.dst with | some d => !hasN (onames ops o) d || (Nat.beq j i || cond (Nat.blt j i) (bitQ M i j) (bitQ M j i)) | none => true)) l 0)) l 0
noncomputable def mEval (P : Program) (C : ACall) (ns : List Nat) (k : Nat) (o : Op) (t : Tm) : OV := match o with
  | .makeMap _ _ => some (.map (some k))
  | .insert _ m x y => (match aevR ns t m, aevR ns t x, aevR ns t y with
    | some (.map (some r)), some _, some _ => cond (Nat.beq r k) (some undef) none
    | _, _, _ => none)
  | o => cond (quietO o) (match aop P (aevR ns t) o ⟨.nil, 0⟩ with
    | some (.val v) => cond (isPureC o) none (some v)
    | some (.call f []) => cond (isPureC o) (match C f [] ⟨.nil, 0⟩ with | some (v, _) => cond (plainT v) (some v) none | none => none) none
    | _ => none) none
noncomputable def mstep (P : Program) (C : ACall) (ops : Array Oper) (k : Nat) (o : Oper) (t : Tm) : Option (Bool × Value) :=
  match awant ops t o.guard with
  | some false => some (false, undef)
  | some true => match mEval P C (onames ops o) k o.op t with | some v => some (true, v) | none => none
  | none => none
noncomputable def mcons (r : DRec) (x : Option (List DRec × Tm)) : Option (List DRec × Tm) :=
  match x with
  | some (rs, tf) => some (r :: rs, tf)
  | none => none
noncomputable def mrun (st : Oper → Tm → Option (Bool × Value)) (nt : Nat) : List Oper → Tm → Option (List DRec × Tm)
  | [], t => some ([], t)
  | o :: l, t => match st o t with
    | some (b, v) => match dput nt t o.dst v with
      | some t' => mcons ⟨t, b, v⟩ (mrun st nt l t')
      | none => none
    | none => none
noncomputable def mrunQ (st : Oper → Tm → Option (Bool × Value)) (nt : Nat) (l : List Oper) : Tm → Option (List DRec × Tm) :=
  List.rec (motive := fun _ => Tm → Option (List DRec × Tm)) (fun t => some ([], t))
    (fun o _ ih t => Option.rec (motive := fun _ => Option (List DRec × Tm)) none (fun p => Prod.rec (motive := fun _ => Option (List DRec × Tm)) (fun b v =>
      Option.rec (motive := fun _ => Option (List DRec × Tm)) none (fun t' => mcons ⟨t, b, v⟩ (ih t')) (dput nt t o.dst v)) p) (st o t)) l
noncomputable def mpr (ops : Array Oper) (rs : List DRec) (i : Nat) : Value × Value := match lat ops.toList i, lat rs i with
  | some o, some r => (match o.op with
    | .insert _ _ x y => (oget (aevR (onames ops o) r.t x), oget (aevR (onames ops o) r.t y))
    | _ => (undef, undef))
  | _, _ => (undef, undef)
noncomputable def insAt (ops : Array Oper) (T m : Nat) (i : Nat) : Bool := match lat ops.toList i with | some o => isIns T m o | none => false
noncomputable def allP (p : Value × Value → Value × Value → Bool) : List (Value × Value) → Bool
  | [] => true
  | x :: l => l.all (fun y => p x y && p y x) && allP p l
noncomputable def mkeys (P : Program) (T : Nat) (ps : List (Value × Value)) : Bool := match mapT2 P T with
  | some (kt, _) => ps.all (fun p => keyQ kt p.1) && allP (fun p q => keyNe p.1 q.1) ps
  | none => false
noncomputable def aDrawM2 (P : Program) (h : AH) (T : Nat) (ps : List (Value × Value)) (tf : Tm) : Option (Tm × AH) :=
  cond (mkeys P T ps) (match h.new (.mp ps) with | some (_, h') => some (tf, h') | none => none) none
noncomputable def aDrawM (P : Program) (C : ACall) (ops : Array Oper) (nt : Nat) (t : Tm) (h : AH) : Option (Tm × AH) :=
  match ops.toList with
  | o :: _ => match isMk o with
    | some (T, m) => cond (mstatM ops T m) (match mrunQ (mstep P C ops h.n) nt ops.toList t with
      | some (rs, tf) => aDrawM2 P h T (((List.range ops.toList.length).filter (insAt ops T m)).map (mpr ops rs)) tf
      | none => none) none
    | none => none
  | [] => none
noncomputable def aDraw (P : Program) (C : ACall) (ops : Array Oper) (nt : Nat) (t : Tm) (h : AH) : Option (Tm × AH) :=
  cond (dstat ops) (match drunQ P C ops nt ops.toList t h with
    | some (rs, hs, tf) => cond (dchk P ops ops.toList (mksQ ops.toList []) (h :: hs) ops.toList rs 0) (some (tf, lastH h hs)) none
    | none => none) (aDrawM P C ops nt t h)
noncomputable def ainit : List Value → Nat → Tm → Tm
  | [], _, t => t
  | v :: l, i, t => ainit l (Nat.add i 1) (t.put i (some v))
noncomputable def aresult (P : Program) (t : Tm) (h : AH) : List ResultVar → Option (List Value)
  | [] => some []
  | .tmp i :: l => match aresult P t h l with | some m => cond (Nat.ble i 1000000) (some (tget t i :: m)) none | none => none
  | .cell i ty :: l => match aload P ty (some (tget t i)) h, aresult P t h l with
    | some v, some m => cond (Nat.ble i 1000000) (some (v :: m)) none
    | _, _ => none
noncomputable def aone : List Value → Value
  | [v] => v
  | l => .tuple l.toArray
abbrev ACode := Code → Nat → Tm → AH → Option (AX × Tm × AH)
structure AI where
  call : ACall
  code : ACode
  loop : ACode
  scope : Code → ACode
abbrev ASum := AI → FuncId → List Value → AH → Option (Option (Value × AH))
noncomputable def marksOf : List Value → Option (List Nat)
  | [] => some []
  | .map (some k) :: l => match marksOf l with | some m => some (k :: m) | none => none
  | _ :: _ => none
noncomputable def aMarks (v : Value) : Option (List Nat) := match v with | .tuple vs => marksOf vs.toList | _ => none
noncomputable def dropMarks : List Nat → AH → Option AH
  | [], h => some h
  | k :: l, h => match h.t.get k with
    | some .mark => dropMarks l ⟨h.t.put k none, h.n⟩
    | _ => none
noncomputable def aEnd (P : Program) (rs : List ResultVar) (t : Tm) (h : AH) : Option (Value × AH) := match aMarks (tget t SB) with
  | some ms => match dropMarks ms h with
    | some h2 => match aresult P t h2 rs with
      | some l => some (aone l, h2)
      | none => none
    | none => none
  | none => none
noncomputable def digsV : Nat → Nat → List Value
  | 0, _ => []
  | f + 1, n => cond (Nat.beq n 0) [] (.int .i64 (.ofNat (Nat.mod (Nat.sub n 1) 2)) :: digsV f (Nat.div (Nat.sub n 1) 2))
noncomputable def bitsV (v : Nat) : Nat → List Value
  | 0 => []
  | n + 1 => .int .u8 (.ofNat (Nat.mod (Nat.div v (Nat.pow 2 n)) 2)) :: bitsV v n
noncomputable def chgsV (x : Int) : Nat → List Value
  | 0 => [.int .i64 0]
  | n + 1 => .int .i64 1 :: .int .i64 x :: chgsV x n
noncomputable def itT (g : FuncId) (cs : List Value) : Option (List Value) := match cs with
  | [.int .i64 (.ofNat n)] => cond (Nat.beq g 281 && Nat.ble n 2147483647) (some (digsV 40 n)) none
  | [.int .i64 (.ofNat n), .int k (.ofNat v)] => match k with
    | .u32 => cond (Nat.beq g 263 && Nat.ble n 32 && Nat.ble v 4294967295) (some (bitsV v n)) none
    | .i64 => cond (Nat.beq g 262 && (Nat.ble n 1000 && Nat.ble v 1000)) (some (cond (Nat.blt n v) (chgsV 1 (Nat.sub v n)) (chgsV 0 (Nat.sub n v)))) none
    | _ => none
  | _ => none
noncomputable def unbox : List Value → AH → Option (List Value × AH)
  | [], h => some ([], h)
  | v :: l, h => match v with
    | .pointer (some ⟨k, 0, none⟩) => (match h.t.get k with
      | some (.row [c] 0) => (match unbox l ⟨h.t.put k none, h.n⟩ with
        | some (cs, h') => some (c :: cs, h')
        | none => none)
      | _ => none)
    | _ => none
noncomputable def noDef (ops : Array Oper) : Bool := ops.toList.all fun o => match o.op with | .defer _ => false | _ => true
noncomputable def aList (P : Program) (C : ACall) (nt : Nat) (c : Code) (t : Tm) (h : AH) : Option (Tm × AH) := match c with
  | .region _ ops false => cond (noDef ops) (aops P C ops nt ops.toList t h) none
  | _ => none
noncomputable def aBody1 (P : Program) (C : ACall) (nt : Nat) (c : Code) (t : Tm) (h : AH) : Option AH := match c with
  | .block _ b => match aList P C nt b t h with | some (_, h') => some h' | none => none
  | _ => none
noncomputable def aRound (P : Program) (C : ACall) (nt p : Nat) (as b : Code) (t : Tm) (x : Value) (h : AH) : Option AH :=
  match aList P C nt as ((t.put SB (some undef)).put p (some x)) h with
  | some (t', h') => aBody1 P C nt b t' h'
  | none => none
noncomputable def aRounds (P : Program) (C : ACall) (nt p : Nat) (as b : Code) (t : Tm) : List Value → AH → Option AH
  | [], h => some h
  | x :: l, h => match aRound P C nt p as b t x h with
    | some h' => aRounds P C nt p as b t l h'
    | none => none
noncomputable def aRange (P : Program) (C : ACall) (f : Operand) (ps : Array Tmp) (as b : Code) (nt : Nat) (t : Tm) (h : AH) : Option (Tm × AH) :=
  match aev t f, ps.toList, aMarks (tget t SB) with
  | some (.func (.func g) pre post), [p], some ms => cond (pre.toList.isEmpty && (enters P g && Nat.blt p nt)) (match unbox post.toList h with
    | some (cs, h1) => match itT g cs with
      | some xs => cond (cs.all flat1 && xs.all flat1) (match h1.new .mark with
        | some (km, h2) => match aRounds P C nt p as b t xs h2 with
          | some h3 => some (t.put SB (some (.tuple (.map (some km) :: ms.map fun k => Value.map (some k)).toArray)), h3)
          | none => none
        | none => none) none
      | none => none
    | none => none) none
  | _, _, _ => none
noncomputable def aBody (P : Program) (D : ACode) (fn : Func) (args : List Value) (h : AH) : Option (Value × AH) :=
  match fn.body with
  | some c => match cond (Nat.ble fn.ntmps 1000000 && Nat.ble args.length fn.ntmps) (D c fn.ntmps (ainit args 0 .nil) h) none with
    | some (.normal, t', h') => aEnd P fn.results.toList t' h'
    | some (.ret, t', h') => aEnd P fn.results.toList t' h'
    | _ => none
  | none => none
noncomputable def aCall (P : Program) (S : ASum) (D : AI) : ACall := fun f args h =>
  match S D f args h with
  | some x => x
  | none => match P.funcs[f]? with | some fn => aBody P D.code fn args h | none => none
noncomputable def aThen (x : Option (AX × Tm × AH)) (k : Tm → AH → Option (AX × Tm × AH)) : Option (AX × Tm × AH) :=
  match x with
  | some (.normal, t, h) => k t h
  | x => x
noncomputable def aBlock (i : Nat) (x : Option (AX × Tm × AH)) : Option (AX × Tm × AH) :=
  match x with
  | some (.exit j, t, h) => cond (Nat.beq j i) (some (.normal, t, h)) (some (.exit j, t, h))
  | x => x
noncomputable def aCond (x : OV) (a b : Option (AX × Tm × AH)) : Option (AX × Tm × AH) :=
  match x with
  | some (.bool true) => a
  | some (.bool false) => b
  | _ => none
noncomputable def aRegion (x : Option (Tm × AH)) : Option (AX × Tm × AH) := match x with | some (t, h) => some (.normal, t, h) | none => none
noncomputable def aLoop (r : AI) : ACode := fun c nt t h => aThen (r.code c nt t h) fun t h => r.loop c nt t h
noncomputable def aScope (r : AI) (c : Code) : ACode := fun rest nt t h =>
  match r.code rest nt t h with
  | some (.goto l, t', h') => match findLabel c l with | some rest' => r.scope c rest' nt t' h' | none => none
  | x => x
noncomputable def aCode (P : Program) (r : AI) : ACode := fun c nt t h =>
  match c with
  | .skip => some (.normal, t, h)
  | .label _ => some (.normal, t, h)
  | .ret => some (.ret, t, h)
  | .exit i => some (.exit i, t, h)
  | .goto l => some (.goto l, t, h)
  | .seq a b => aThen (r.code a nt t h) fun t h => r.code b nt t h
  | .cond x a b => aCond (aev t x) (r.code a nt t h) (r.code b nt t h)
  | .block i a => aBlock i (r.code a nt t h)
  | .loop a => r.loop a nt t h
  | .scope a => r.scope a a nt t h
  | .region _ ops d => aRegion (cond d (aDraw P r.call ops nt t h) (aops P r.call ops nt ops.toList t h))
  | .rangeFunc f ps as b => aRegion (aRange P r.call f ps as b nt t h)
  | _ => none
noncomputable def ai (P : Program) (S : ASum) (n : Nat) : AI :=
  Nat.rec (motive := fun _ => AI) ⟨fun _ _ _ => none, fun _ _ _ _ => none, fun _ _ _ _ => none, fun _ _ _ _ _ => none⟩ (fun _ r => ⟨aCall P S r, aCode P r, aLoop r, aScope r⟩) n
end Go.Proofs.YtkpbhdhkdonghaaGreat
