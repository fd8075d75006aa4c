/- Parts of the walks' engine. -/
import Derived.WalkKit
import Derived.Deep.MidRow
import Derived.Deep.Quiet
import Derived.Great.BuildSlice
import Derived.KernelRfl
import Derived.StillTail
import Derived.OrdersIn
import Derived.TacticsIn
import Derived.RangeFuncNested
import Derived.RangeFuncLeaves
namespace Go.E
set_option linter.all false
open Go.RowKit
set_option maxHeartbeats 8000000
inductive PV where
 | v (x : Value)
 | p (b i off : Nat)
 | r (A : Option Addr) (n cap i : Nat)
def PV.c : PV → Value
 | .v x => x
 | .p b _ off => .pointer (some ⟨b, off, none⟩)
 | .r A n cap _ => .slice A n cap
def cC {β : Type} : PV → (Value → Option β) → Option β
 | .v x, k => k x
 | .p b _ off, k => k (.pointer (some ⟨b, off, none⟩))
 | .r A n cap _, k => k (.slice A n cap)
theorem K5 {β : Type} (x : PV) (k : Value → Option β) : cC x k = k x.c := by cases x <;> rfl
inductive AV where
 | s (x : PV)
 | g (gs : List (Bool × Bool)) (x : PV)
def gOk : List (Bool × Bool) → Bool
 | [] => true
 | (c, w) :: gs => (c == w) && gOk gs
def AV.c : AV → Value
 | .s x => x.c
 | .g gs x => if gOk gs then x.c else undef
structure Bx where
 b : Nat
 ty : TypeId
 cs : List PV
structure Rw where
 e : TypeId
 size : Nat
 n : Nat
 xs : List Value
 val : Value
structure St where
 sl : List (Nat × AV)
 bx : List Bx
 rw : List Rw
inductive K where
 | struct (fs : List (Nat × Nat × Bool))
 | array (n e es : Nat) (er : Bool)
 | slice (e es : Nat)
 | str
 | int (k : IntKind)
 | bool
 | other
structure TI where
 size : Nat
 bytes : Nat
 row : Bool
 zero : List Value
 k : K
def look {α : Type} : List (Nat × α) → Nat → Option α
 | [], _ => none
 | (k, v) :: r, t => bif Nat.beq k t then some v else look r t
def nth {α : Type} : List α → Nat → Option α
 | [], _ => none
 | x :: _, 0 => some x
 | _ :: r, n + 1 => nth r n
def AllP : List Prop → Prop
 | [] => True
 | p :: ps => p ∧ AllP ps
def imp : List (Bool × Bool) → Prop → Prop
 | [], p => p
 | (c, w) :: r, p => c = w → imp r p
def ev (σ : St) : Operand → Option AV
 | .tmp t => look σ.sl t
 | .const v => some (.s (.v v))
 | .global g => some (.s (.v (.pointer (some ⟨g, 0, none⟩))))
 | .func f => some (.s (.v (.func (.func f) #[] #[])))
def strip : List (Bool × Bool) → List (Bool × Bool) → List Prop → Option (List (Bool × Bool) × List Prop)
 | [], gs, ob => some (gs, ob)
 | _ :: _, [], ob => some ([], ob)
 | (c0, w0) :: ctx, (c, w) :: gs, ob => strip ctx gs ((c = c0) :: (w = w0) :: ob)
def evp (σ : St) (ctx : List (Bool × Bool)) (x : Operand) (ob : List Prop) : Option (PV × List Prop) :=
 match ev σ x with
 | some (.s v) => some (v, ob)
 | some (.g gs v) => match strip ctx gs ob with
  | some ([], ob) => some (v, ob)
  | _ => none
 | none => none
def evArm (σ : St) (ctx : List (Bool × Bool)) (x : Operand) (c w : Bool) (ob : List Prop) : Option (PV × List Prop) :=
 match ev σ x with
 | some (.s v) => some (v, ob)
 | some (.g gs v) => match strip ctx gs ob with
  | some ([], ob) => some (v, ob)
  | some ([(c', w')], ob) => some (v, (c' = c) :: (w' = w) :: ob)
  | _ => none
 | none => none
def takeC {β : Type} : Nat → List PV → (List Value → Option β) → Option β
 | 0, _, k => k []
 | _ + 1, [], _ => none
 | n + 1, x :: r, k => cC x fun v => takeC n r fun l => k (v :: l)
def dropC {α : Type} : Nat → List α → List α
 | 0, l => l
 | _ + 1, [] => []
 | n + 1, _ :: r => dropC n r
def takeV {β : Type} : Nat → List Value → (List Value → Option β) → Option β
 | 0, _, k => k []
 | _ + 1, [], _ => none
 | n + 1, x :: r, k => takeV n r fun l => k (x :: l)
def putC {α β : Type} : Nat → List α → List α → (List α → Option β) → Option β
 | 0, new, [], k => match new with | [] => k [] | _ :: _ => none
 | 0, [], old, k => k old
 | 0, x :: new, _ :: old, k => putC 0 new old fun l => k (x :: l)
 | _ + 1, _, [], _ => none
 | n + 1, new, o :: old, k => putC n new old fun l => k (o :: l)
def updB {β : Type} : Nat → List Bx → (Bx → (Bx → Option β) → Option β) → (List Bx → Option β) → Option β
 | _, [], _, _ => none
 | 0, x :: r, f, k => f x fun y => k (y :: r)
 | n + 1, x :: r, f, k => updB n r f fun l => k (x :: l)
def cellsOf : PV → List PV
 | .v (.agg cs) => cs.toList.map .v
 | x => [x]
def inR : IntKind → Int → Prop
 | .i64, z => -9223372036854775808 ≤ z ∧ z ≤ 9223372036854775807
 | .i32, z => -2147483648 ≤ z ∧ z ≤ 2147483647
 | .i16, z => -32768 ≤ z ∧ z ≤ 32767
 | .i8, z => -128 ≤ z ∧ z ≤ 127
 | .u64, z => 0 ≤ z ∧ z ≤ 18446744073709551615
 | .u32, z => 0 ≤ z ∧ z ≤ 4294967295
 | .u16, z => 0 ≤ z ∧ z ≤ 65535
 | .u8, z => 0 ≤ z ∧ z ≤ 255
theorem J2 {k : IntKind} {z : Int} (h : inR k z) : k.wrap z = z := by
 cases k <;> simp only [inR] at h <;> simp only [IntKind.wrap, IntKind.bits, IntKind.signed] <;> (try simp) <;> omega
def rowOf : TypeDesc → Bool
 | .struct _ | .array _ _ => true
 | _ => false
def fieldOf (P : Program) (f : Field) : Option (Nat × Nat × Bool) :=
 match P.info? f.type, P.underlying f.type with
 | some i, some d => some (f.offset, i.size, rowOf d)
 | _, _ => none
def mapO {α β : Type} (f : α → Option β) : List α → Option (List β)
 | [] => some []
 | x :: r => match f x with
  | some y => match mapO f r with
   | some ys => some (y :: ys)
   | none => none
  | none => none
def kOf (P : Program) : TypeDesc → K
 | .struct fs => match mapO (fieldOf P) fs.toList with
  | some l => .struct l
  | none => .other
 | .array n e => match P.info? e, P.underlying e with
  | some i, some d => .array n e i.size (rowOf d)
  | _, _ => .other
 | .slice e => match P.info? e with
  | some i => .slice e i.size
  | none => .other
 | .string => .str
 | .int k => .int k
 | .bool => .bool
 | _ => .other
def tiOf (P : Program) (t : TypeId) : Option TI :=
 match P.info? t, P.underlying t with
 | some i, some d => match i.zero with
  | some z => some { size := i.size, bytes := i.bytes, row := rowOf d, zero := z.cells.toList, k := kOf P d }
  | none => none
 | _, _ => none
abbrev TT := List (Nat × TI)
def TOk (P : Program) (T : TT) : Prop := T.map (fun x => tiOf P x.1) = T.map (fun x => some x.2)
theorem av8 {α : Type} : ∀ (l : List (Nat × α)) (t : Nat) (v : α), look l t = some v → (t, v) ∈ l
 | [], _, _, h => by simp [look] at h
 | (k, u) :: r, t, v, h => by
  simp only [look] at h
  cases hk : Nat.beq k t with
  | true =>
   rw [hk] at h
   simp only [cond_true, Option.some.injEq] at h
   have := Nat.eq_of_beq_eq_true hk
   subst this; subst h
   simp
  | false =>
   rw [hk] at h
   exact List.mem_cons_of_mem _ (av8 r t v h)
theorem TOk.at_ {P : Program} {T : TT} (h : TOk P T) {t : Nat} {ti : TI} (hl : look T t = some ti) : tiOf P t = some ti := by
 have hm := av8 T t ti hl
 unfold TOk at h
 exact List.map_inj_left.1 h (t, ti) hm
def arith (op : BinOp) (k : IntKind) (x y : Int) (ob : List Prop) : Option (PV × List Prop) :=
 match op with
 | .add => some (.v (.int k (x + y)), inR k (x + y) :: ob)
 | .sub => some (.v (.int k (x - y)), inR k (x - y) :: ob)
 | .mul => some (.v (.int k (x * y)), inR k (x * y) :: ob)
 | .quo => some (.v (.int k (x / y)), (0 ≤ x ∧ 0 < y ∧ inR k x) :: ob)
 | .rem => some (.v (.int k (x % y)), (0 ≤ x ∧ 0 < y) :: ob)
 | .eql => some (.v (.bool (x == y)), ob)
 | .neq => some (.v (.bool (x != y)), ob)
 | .lss => some (.v (.bool (decide (x < y))), ob)
 | .leq => some (.v (.bool (decide (x ≤ y))), ob)
 | .gtr => some (.v (.bool (decide (y < x))), ob)
 | .geq => some (.v (.bool (decide (y ≤ x))), ob)
 | _ => none
def binV (op : BinOp) (x y : PV) (ob : List Prop) : Option (PV × List Prop) :=
 match x, y with
 | .v (.int k a), .v (.int k' b) => arith op k a b ((k = k') :: ob)
 | .v (.string a), .v (.string b) => match op with
  | .eql => some (.v (.bool (a.toList == b.toList)), ob)
  | .neq => some (.v (.bool (!(a.toList == b.toList))), ob)
  | _ => none
 | _, _ => none
def pickV (ca cb : Operand) (c : Bool) (x y : PV) (ob : List Prop) : Option (PV × List Prop) :=
 match x, y with
 | .v (.bool p), .v (.bool q) => match ca with
  | .const (.bool true) => some (.v (.bool (c || q)), (p = true) :: ob)
  | _ => match cb with
   | .const (.bool false) => some (.v (.bool (c && p)), (q = false) :: ob)
   | _ => some (.v (.bool (cond c p q)), ob)
 | _, _ => none
def partsV (σ : St) (ctx : List (Bool × Bool)) {β : Type} : List (Nat × Operand) → List Prop → (List (Nat × PV) → List Prop → Option β) → Option β
 | [], ob, k => k [] ob
 | (i, x) :: r, ob, k => match evp σ ctx x ob with
  | some (v, ob) => partsV σ ctx r ob fun l ob => k ((i, v) :: l) ob
  | none => none
def placeOf : K → Nat → Option (Nat × Nat)
 | .struct fs, i => match nth fs i with
  | some (off, sz, _) => some (off, sz)
  | none => none
 | .array _ _ es _, i => some (i * es, es)
 | _, _ => none
def buildC {β : Type} (k : K) : List (Nat × PV) → List PV → (List PV → Option β) → Option β
 | [], cs, f => f cs
 | (i, v) :: r, cs, f => match placeOf k i with
  | some (off, sz) => bif Nat.beq (cellsOf v).length sz then putC off (cellsOf v) cs fun cs => buildC k r cs f else none
  | none => none
def valC {β : Type} : List (Nat × PV) → (List Value → Option β) → Option β
 | [], k => k []
 | (_, v) :: r, k => cC v fun x => valC r fun l => k (x :: l)
def opV (T : TT) (σ : St) (ctx : List (Bool × Bool)) (o : Oper) : Option (PV × List Prop) :=
 match o.op with
 | .move x => evp σ ctx x []
 | .assign x => evp σ ctx x []
 | .pick c a b => match evp σ ctx c [] with
  | some (.v (.bool cv), ob) => match evArm σ ctx a cv true ob with
   | some (x, ob) => match evArm σ ctx b cv false ob with
    | some (y, ob) => pickV a b cv x y ob
    | none => none
   | none => none
  | _ => none
 | .build t parts => match look T t with
  | some ti => match ti.k with
   | .struct fs => partsV σ ctx parts.toList [] fun l ob => buildC (.struct fs) l (ti.zero.map .v) fun cs => takeC cs.length cs fun vs => some (.v (.agg vs.toArray), ob)
   | .array n e es er => partsV σ ctx parts.toList [] fun l ob => buildC (.array n e es er) l (ti.zero.map .v) fun cs => takeC cs.length cs fun vs => some (.v (.agg vs.toArray), ob)
   | _ => none
  | none => none
 | .load t x => match evp σ ctx x [] with
  | some (.p b i off, ob) => match nth σ.bx i with
   | some bx => match look T t with
    | some ti => match ti.row with
     | true => takeC ti.size (dropC off bx.cs) fun vs => some (.v (.agg vs.toArray), (b = bx.b) :: ob)
     | false => match dropC off bx.cs with
      | x :: _ => some (x, (b = bx.b) :: ob)
      | [] => none
    | none => none
   | none => none
  | _ => none
 | .fieldAddr t x f => match evp σ ctx x [] with
  | some (.p b i off, ob) => match look T t with
   | some ti => match ti.k with
    | .struct fs => match nth fs f with
     | some (foff, fsz, _) => match fsz with
      | 0 => none
      | _ + 1 => some (.p b i (off + foff), ob)
     | none => none
    | _ => none
   | none => none
  | some (.v (.pointer (some a)), ob) => match look T t with
   | some ti => match ti.k with
    | .struct fs => match nth fs f with
     | some (foff, fsz, _) => match fsz with
      | 0 => none
      | _ + 1 => some (.v (.pointer (some (a.add foff))), ob)
     | none => none
    | _ => none
   | none => none
  | _ => none
 | .field t x f => match evp σ ctx x [] with
  | some (.v (.agg cs), ob) => match look T t with
   | some ti => match ti.k with
    | .struct fs => match nth fs f with
     | some (foff, fsz, frow) => match frow with
      | true => takeV fsz (dropC foff cs.toList) fun vs => some (.v (.agg vs.toArray), ob)
      | false => match dropC foff cs.toList with
       | x :: _ => some (.v x, ob)
       | [] => none
     | none => none
    | _ => none
   | none => none
  | _ => none
 | .binOp op _ x y _ => match evp σ ctx x [] with
  | some (a, ob) => match evp σ ctx y ob with
   | some (b, ob) => binV op a b ob
   | none => none
  | none => none
 | .unOp op _ x => match evp σ ctx x [] with
  | some (.v (.bool a), ob) => match op with
   | .not => some (.v (.bool (!a)), ob)
   | _ => none
  | some (.v (.int k a), ob) => match op with
   | .neg => some (.v (.int k (0 - a)), inR k (0 - a) :: ob)
   | _ => none
  | _ => none
 | .convert s d x => match evp σ ctx x [] with
  | some (.v (.int _ n), ob) => match look T d with
   | some ti => match ti.k with
    | .int k => match look T s with
     | some _ => some (.v (.int k n), inR k n :: ob)
     | none => none
    | _ => none
   | none => none
  | _ => none
 | .extract x i => match evp σ ctx x [] with
  | some (.v (.tuple vs), ob) => match nth vs.toList i with
   | some v => some (.v v, ob)
   | none => none
  | _ => none
 | .nilCheck x => match evp σ ctx x [] with
  | some (.p b i off, ob) => some (.p b i off, ob)
  | some (.v (.pointer (some a)), ob) => some (.v (.pointer (some a)), ob)
  | _ => none
 | .makeFunc fn first cap => partsV σ ctx (first.toList.map fun x => (0, x)) [] fun l ob => partsV σ ctx (cap.toList.map fun x => (0, x)) ob fun l' ob =>
   valC l fun vs => valC l' fun vs' => some (.v (.func fn vs.toArray vs'.toArray), ob)
 | .indexAddr t x ix => match evp σ ctx x [] with
  | some (xv, ob) => match evp σ ctx ix ob with
   | some (.v (.int _ n), ob) => match look T t with
    | some ti => match ti.k with
     | .array len _ es _ => match xv with
      | .p b i off => some (.p b i (off + n.toNat * es), (0 ≤ n ∧ n < len) :: ob)
      | .v (.pointer (some a)) => some (.v (.pointer (some (a.add (n.toNat * es)))), (0 ≤ n ∧ n < len) :: ob)
      | _ => none
     | .slice _ es => match xv with
      | .v (.slice (some a) len _) => some (.v (.pointer (some (a.add (n.toNat * es)))), (0 ≤ n ∧ n < len) :: ob)
      | .r (some a) len _ _ => some (.v (.pointer (some (a.add (n.toNat * es)))), (0 ≤ n ∧ n < len) :: ob)
      | _ => none
     | _ => none
    | none => none
   | _ => none
  | none => none
 | .index t x ix => match evp σ ctx x [] with
  | some (.v (.agg cs), ob) => match evp σ ctx ix ob with
   | some (.v (.int _ n), ob) => match look T t with
    | some ti => match ti.k with
     | .array len _ es er => match er with
      | true => takeV es (dropC (n.toNat * es) cs.toList) fun vs => some (.v (.agg vs.toArray), (0 ≤ n ∧ n < len) :: ob)
      | false => match dropC (n.toNat * es) cs.toList with
       | x :: _ => some (.v x, (0 ≤ n ∧ n < len) :: ob)
       | [] => none
     | _ => none
    | none => none
   | _ => none
  | _ => none
 | .call c => match c.callee with
  | .builtin .len => match c.args.toList with
   | [x] => match c.argTypes.toList with
    | [t] => match evp σ ctx x [] with
     | some (xv, ob) => match look T t with
      | some ti => match ti.k with
       | .str => match xv with
        | .v (.string s) => some (.v (.int .i64 s.size), ob)
        | _ => none
       | .slice _ _ => match xv with
        | .v (.slice _ n _) => some (.v (.int .i64 n), ob)
        | .r _ n _ _ => some (.v (.int .i64 n), ob)
        | _ => none
       | .array n _ _ _ => some (.v (.int .i64 n), ob)
       | _ => none
      | none => none
     | none => none
    | _ => none
   | _ => none
  | .builtin .max => match c.args.toList with
   | [x, y] => match evp σ ctx x [] with
    | some (.v (.int k a), ob) => match evp σ ctx y ob with
     | some (.v (.int _ b), ob) => some (.v (.int k (max a b)), ob)
     | _ => none
    | _ => none
   | _ => none
  | .builtin .min => match c.args.toList with
   | [x, y] => match evp σ ctx x [] with
    | some (.v (.int k a), ob) => match evp σ ctx y ob with
     | some (.v (.int _ b), ob) => some (.v (.int k (min a b)), ob)
     | _ => none
    | _ => none
   | _ => none
  | _ => none
 | _ => none
def marks (ds : List Nat) : List Deferred := ds.map fun D => { target := .collected D, args := #[] }
structure HA (N : Nat) (ds : List Nat) (σ : St) (a : Act) : Prop where
 size : a.tmps.size = N
 defers : a.defers = marks ds
 at_ : ∀ t v, look σ.sl t = some v → a.tmps[t]? = some v.c
abbrev Past := List (World × (Nat → Prop))
structure HW (B : Nat) (w0 : World) (Ps : Past) (σ : St) (w : World) : Prop where
 below : Below B w0 w
 bsize : B ≤ w.heap.size
 nodup : (σ.bx.map (·.b)).Nodup
 box : ∀ x ∈ σ.bx, B ≤ x.b ∧ w.heap[x.b]? = some (.cells (x.cs.map PV.c).toArray x.ty (0, 0))
 past : ∀ p ∈ Ps, ∀ b, p.2 b → (b < w.heap.size ∧ w.heap[b]? = p.1.heap[b]?) ∧ ∀ x ∈ σ.bx, x.b ≠ b
 row : ∀ r ∈ σ.rw, w.ownsRow B r.e r.size r.val r.n r.xs ∧ ∀ g, r.val.ownBlock = some g → (∀ x ∈ σ.bx, x.b ≠ g) ∧ ∀ p ∈ Ps, ¬ p.2 g
 apart : σ.rw.Pairwise fun r s => ∀ g, r.val.ownBlock = some g → s.val.ownBlock ≠ some g
 old : ∀ p ∈ Ps, p.1.heap.size ≤ w.heap.size
theorem E1 {α : Type} : ∀ (l : List α) (i : Nat), nth l i = l[i]?
 | [], _ => by simp [nth]
 | x :: r, 0 => by simp [nth]
 | x :: r, i + 1 => by simp [nth, E1 r i]
theorem F7 {α : Type} {l : List α} {i : Nat} {x : α} (h : nth l i = some x) : x ∈ l := by
 rw [E1] at h
 exact List.mem_of_getElem? h
theorem I9 {α : Type} : ∀ (n : Nat) (l : List α), dropC n l = l.drop n
 | 0, l => by simp [dropC]
 | n + 1, [] => by simp [dropC]
 | n + 1, x :: l => by simp [dropC, I9 n l]
theorem N0 {β : Type} : ∀ (n : Nat) (l : List PV) (k : List Value → Option β) (r : β), takeC n l k = some r → n ≤ l.length ∧ k ((l.take n).map PV.c) = some r
 | 0, l, k, r, h => by simpa [takeC] using h
 | n + 1, [], k, r, h => by simp [takeC] at h
 | n + 1, x :: l, k, r, h => by
  simp only [takeC, K5] at h
  have := N0 n l _ r h
  simpa using this
theorem H2 {β : Type} : ∀ (l : List (Nat × PV)) (k : List Value → Option β) (z : β), valC l k = some z → k (l.map fun x => x.2.c) = some z
 | [], k, z, h => h
 | (i, v) :: r, k, z, h => by
  simp only [valC, K5] at h
  exact H2 r _ z h
theorem T9 {β : Type} : ∀ (n : Nat) (l : List Value) (k : List Value → Option β) (r : β), takeV n l k = some r → n ≤ l.length ∧ k (l.take n) = some r
 | 0, l, k, r, h => by simpa [takeV] using h
 | n + 1, [], k, r, h => by simp [takeV] at h
 | n + 1, x :: l, k, r, h => by
  simp only [takeV] at h
  have := T9 n l _ r h
  simpa using this
section
variable {P : Program} {T : TT} {N B : Nat} {ds : List Nat} {w0 w : World} {Ps : Past} {σ : St} {a : Act}
theorem bA2 (ha : HA N ds σ a) {x : Operand} {v : AV} (h : ev σ x = some v) : a.eval x = v.c := by
 cases x with
 | tmp t =>
  have := ha.at_ t v h
  simp [Act.eval, this]
 | const u => simp only [ev, Option.some.injEq] at h; subst h; rfl
 | global g => simp only [ev, Option.some.injEq] at h; subst h; rfl
 | func f => simp only [ev, Option.some.injEq] at h; subst h; rfl
theorem V7 : ∀ (ctx gs : List (Bool × Bool)) (ob ob' : List Prop) (r : List (Bool × Bool)), strip ctx gs ob = some (r, ob') → AllP ob' →
  AllP ob ∧ (gOk ctx = true → gOk gs = gOk r)
 | [], gs, ob, ob', r, h, hob => by
  simp only [strip, Option.some.injEq, Prod.mk.injEq] at h
  obtain ⟨rfl, rfl⟩ := h
  exact ⟨hob, fun _ => rfl⟩
 | _ :: _, [], ob, ob', r, h, hob => by
  simp only [strip, Option.some.injEq, Prod.mk.injEq] at h
  obtain ⟨rfl, rfl⟩ := h
  exact ⟨hob, fun _ => rfl⟩
 | (c0, w0) :: ctx, (c, w) :: gs, ob, ob', r, h, hob => by
  simp only [strip] at h
  obtain ⟨h1, h2⟩ := V7 ctx gs _ ob' r h hob
  obtain ⟨rfl, rfl, h3⟩ := h1
  refine ⟨h3, fun hg => ?_⟩
  simp only [gOk, Bool.and_eq_true] at hg ⊢
  rw [h2 hg.2, hg.1, Bool.true_and]
theorem q5 (ha : HA N ds σ a) {ctx : List (Bool × Bool)} (hc : gOk ctx = true) {x : Operand} {ob ob' : List Prop} {v : PV} (h : evp σ ctx x ob = some (v, ob')) (hob : AllP ob') :
  a.eval x = v.c ∧ AllP ob := by
 unfold evp at h
 cases he : ev σ x with
 | none => simp [he] at h
 | some av =>
  rw [he] at h
  rw [bA2 ha he]
  cases av with
  | s u =>
   simp only [Option.some.injEq, Prod.mk.injEq] at h
   obtain ⟨rfl, rfl⟩ := h
   exact ⟨rfl, hob⟩
  | g gs u =>
   cases hs : strip ctx gs ob with
   | none => simp [hs] at h
   | some q =>
    obtain ⟨r, ob1⟩ := q
    cases r with
    | nil =>
     simp only [hs, Option.some.injEq, Prod.mk.injEq] at h
     obtain ⟨rfl, rfl⟩ := h
     obtain ⟨h1, h2⟩ := V7 ctx gs ob _ [] hs hob
     exact ⟨by simp [AV.c, h2 hc, gOk], h1⟩
    | cons _ _ => simp [hs] at h
theorem aD8 (ha : HA N ds σ a) {ctx : List (Bool × Bool)} (hc : gOk ctx = true) {x : Operand} {c wt : Bool} {ob ob' : List Prop} {v : PV} (h : evArm σ ctx x c wt ob = some (v, ob')) (hob : AllP ob') :
  (c = wt → a.eval x = v.c) ∧ AllP ob := by
 unfold evArm at h
 cases he : ev σ x with
 | none => simp [he] at h
 | some av =>
  rw [he] at h
  rw [bA2 ha he]
  cases av with
  | s u =>
   simp only [Option.some.injEq, Prod.mk.injEq] at h
   obtain ⟨rfl, rfl⟩ := h
   exact ⟨fun _ => rfl, hob⟩
  | g gs u =>
   cases hs : strip ctx gs ob with
   | none => simp [hs] at h
   | some q =>
    obtain ⟨r, ob1⟩ := q
    simp only [hs] at h
    match r, h with
    | [], h =>
     simp only [Option.some.injEq, Prod.mk.injEq] at h
     obtain ⟨rfl, rfl⟩ := h
     obtain ⟨h1, h2⟩ := V7 ctx gs ob _ [] hs hob
     exact ⟨fun _ => by simp [AV.c, h2 hc, gOk], h1⟩
    | [(c', w')], h =>
     simp only [Option.some.injEq, Prod.mk.injEq] at h
     obtain ⟨rfl, rfl⟩ := h
     obtain ⟨rfl, rfl, h3⟩ := hob
     obtain ⟨h1, h2⟩ := V7 ctx gs ob _ _ hs h3
     refine ⟨fun hcw => ?_, h1⟩
     subst hcw
     simp [AV.c, h2 hc, gOk]
theorem TOk.row (hT : TOk P T) {t : Nat} {ti : TI} (hl : look T t = some ti) :
  ∃ i d z, P.info? t = some i ∧ P.underlying t = some d ∧ i.zero = some z ∧ ti = { size := i.size, bytes := i.bytes, row := rowOf d, zero := z.cells.toList, k := kOf P d } := by
 have h := hT.at_ hl
 unfold tiOf at h
 cases hi : P.info? t with
 | none => simp [hi] at h
 | some i =>
  cases hu : P.underlying t with
  | none => simp [hi, hu] at h
  | some d =>
   cases hz : i.zero with
   | none => simp [hi, hu, hz] at h
   | some z =>
    simp only [hi, hu, hz, Option.some.injEq] at h
    exact ⟨i, d, z, rfl, rfl, hz, h.symm⟩
theorem av5 (d : TypeDesc) : rowOf d = d.isRow := by cases d <;> rfl
theorem H0 {t : TypeId} {d : TypeDesc} (hu : P.underlying t = some d) : (isAgg t).run P w = .ok (rowOf d) w := by
 unfold isAgg
 rw [Sem.run_bind, run_underlying hu w]
 cases d <;> simp [rowOf]
theorem ai6 {α β : Type} {f : α → Option β} : ∀ {l : List α} {l' : List β}, mapO f l = some l' → l.length = l'.length ∧ ∀ (i : Nat) (y : β), l'[i]? = some y → ∃ x : α, l[i]? = some x ∧ f x = some y
 | [], l', h => by simp only [mapO, Option.some.injEq] at h; subst h; simp
 | x :: r, l', h => by
  simp only [mapO] at h
  cases hf : f x with
  | none => simp [hf] at h
  | some y =>
   cases hr : mapO f r with
   | none => simp [hf, hr] at h
   | some ys =>
    simp only [hf, hr, Option.some.injEq] at h
    subst h
    obtain ⟨h1, h2⟩ := ai6 hr
    refine ⟨by simp [h1], fun i y' hy => ?_⟩
    cases i with
    | zero => simp only [List.getElem?_cons_zero, Option.some.injEq] at hy; subst hy; exact ⟨x, by simp, hf⟩
    | succ i => simpa using h2 i y' (by simpa using hy)
theorem N1 {d : TypeDesc} {fs : List (Nat × Nat × Bool)} (h : kOf P d = .struct fs) : ∃ a, d = .struct a ∧ mapO (fieldOf P) a.toList = some fs := by
 cases d with
 | struct a =>
  simp only [kOf] at h
  cases hm : mapO (fieldOf P) a.toList with
  | none => simp [hm] at h
  | some l =>
   simp only [hm, K.struct.injEq] at h
   subst h
   exact ⟨a, rfl, hm⟩
 | array n e => simp only [kOf] at h; split at h <;> cases h
 | slice e => simp only [kOf] at h; split at h <;> cases h
 | _ => simp [kOf] at h
theorem R2 {d : TypeDesc} {n e es : Nat} {er : Bool} (h : kOf P d = .array n e es er) : d = .array n e ∧ ∃ i u, P.info? e = some i ∧ P.underlying e = some u ∧ i.size = es ∧ rowOf u = er := by
 cases d with
 | struct a => simp only [kOf] at h; split at h <;> cases h
 | slice e => simp only [kOf] at h; split at h <;> cases h
 | array m f =>
  simp only [kOf] at h
  cases hi : P.info? f with
  | none => simp [hi] at h
  | some i =>
   cases hu : P.underlying f with
   | none => simp [hi, hu] at h
   | some u =>
    simp only [hi, hu, K.array.injEq] at h
    obtain ⟨rfl, rfl, rfl, rfl⟩ := h
    exact ⟨rfl, i, u, hi, hu, rfl, rfl⟩
 | _ => simp [kOf] at h
theorem D5 {d : TypeDesc} {e es : Nat} (h : kOf P d = .slice e es) : d = .slice e ∧ ∃ i, P.info? e = some i ∧ i.size = es := by
 cases d with
 | struct a => simp only [kOf] at h; split at h <;> cases h
 | slice f =>
  simp only [kOf] at h
  cases hi : P.info? f with
  | none => simp [hi] at h
  | some i =>
   simp only [hi, K.slice.injEq] at h
   obtain ⟨rfl, rfl⟩ := h
   exact ⟨rfl, i, hi, rfl⟩
 | array m f => simp only [kOf] at h; split at h <;> cases h
 | _ => simp [kOf] at h
theorem aH9 {d : TypeDesc} (h : kOf P d = .str) : d = .string := by
 cases d with
 | struct a => simp only [kOf] at h; split at h <;> cases h
 | slice e => simp only [kOf] at h; split at h <;> cases h
 | array m f => simp only [kOf] at h; split at h <;> cases h
 | string => rfl
 | _ => simp [kOf] at h
theorem bb0 {d : TypeDesc} {k : IntKind} (h : kOf P d = .int k) : d = .int k := by
 cases d with
 | struct a => simp only [kOf] at h; split at h <;> cases h
 | slice e => simp only [kOf] at h; split at h <;> cases h
 | array m f => simp only [kOf] at h; split at h <;> cases h
 | int j => simp only [kOf, K.int.injEq] at h; subst h; rfl
 | _ => simp [kOf] at h
theorem Z5 {f : Field} {off sz : Nat} {rw : Bool} (h : fieldOf P f = some (off, sz, rw)) :
  f.offset = off ∧ ∃ i u, P.info? f.type = some i ∧ P.underlying f.type = some u ∧ i.size = sz ∧ rowOf u = rw := by
 unfold fieldOf at h
 cases hi : P.info? f.type with
 | none => simp [hi] at h
 | some i =>
  cases hu : P.underlying f.type with
  | none => simp [hi, hu] at h
  | some u =>
   simp only [hi, hu, Option.some.injEq, Prod.mk.injEq] at h
   exact ⟨h.1, i, u, rfl, rfl, h.2.1, h.2.2⟩
theorem ag2 {fl : Array Field} {fs : List (Nat × Nat × Bool)} (hm : mapO (fieldOf P) fl.toList = some fs) {f : Nat} {off sz : Nat} {rw : Bool} (h : nth fs f = some (off, sz, rw)) :
  ∃ fd, fl[f]? = some fd ∧ fd.offset = off ∧ ∃ i u, P.info? fd.type = some i ∧ P.underlying fd.type = some u ∧ i.size = sz ∧ rowOf u = rw := by
 rw [E1] at h
 obtain ⟨fd, h1, h2⟩ := (ai6 hm).2 f _ h
 obtain ⟨h3, h4⟩ := Z5 h2
 exact ⟨fd, by simpa using h1, h3, h4⟩
theorem ak9 : ∀ {l : List Field} {fs : List (Nat × Nat × Bool)}, mapO (fieldOf P) l = some fs → l.mapM (fun f => (P.info? f.type).map fun i => (f.offset, i.size)) = some (fs.map fun x => (x.1, x.2.1))
 | [], fs, h => by simp only [mapO, Option.some.injEq] at h; subst h; simp
 | x :: r, fs, h => by
  simp only [mapO] at h
  cases hf : fieldOf P x with
  | none => simp [hf] at h
  | some y =>
   cases hr : mapO (fieldOf P) r with
   | none => simp [hf, hr] at h
   | some ys =>
    simp only [hf, hr, Option.some.injEq] at h
    subst h
    obtain ⟨off, sz, rw⟩ := y
    obtain ⟨h1, i, u, h2, _, h3, _⟩ := Z5 hf
    simp [List.mapM_cons, h2, ak9 hr, h1, h3]
theorem E0 {β : Type} (ha : HA N ds σ a) {ctx : List (Bool × Bool)} (hc : gOk ctx = true) : ∀ (l : List (Nat × Operand)) (ob : List Prop) (k : List (Nat × PV) → List Prop → Option β) (r : β),
  partsV σ ctx l ob k = some r → ∃ l' ob', k l' ob' = some r ∧ (AllP ob' → l.map (fun x => (x.1, a.eval x.2)) = l'.map (fun x => (x.1, x.2.c)) ∧ AllP ob)
 | [], ob, k, r, h => ⟨[], ob, h, fun h => ⟨rfl, h⟩⟩
 | (i, x) :: l, ob, k, r, h => by
  simp only [partsV] at h
  cases he : evp σ ctx x ob with
  | none => simp [he] at h
  | some q =>
   obtain ⟨v, ob1⟩ := q
   rw [he] at h
   obtain ⟨l', ob', hk, hl⟩ := E0 ha hc l ob1 _ r h
   refine ⟨(i, v) :: l', ob', hk, fun hob => ?_⟩
   obtain ⟨h1, h2⟩ := hl hob
   obtain ⟨h3, h4⟩ := q5 ha hc he h2
   exact ⟨by simp [h1, h3], h4⟩
theorem Q0 {α β : Type} : ∀ (off : Nat) (new old : List α) (k : List α → Option β) (r : β), putC off new old k = some r →
  off + new.length ≤ old.length ∧ k (old.take off ++ (new ++ old.drop (off + new.length))) = some r
 | 0, [], [], k, r, h => by simpa [putC] using h
 | 0, _ :: _, [], k, r, h => by simp [putC] at h
 | 0, [], _ :: _, k, r, h => by simpa [putC] using h
 | 0, x :: new, y :: old, k, r, h => by
  simp only [putC] at h
  obtain ⟨h1, h2⟩ := Q0 0 new old _ r h
  simp only [Nat.zero_add, List.take_zero, List.nil_append] at h1 h2 ⊢
  exact ⟨by simpa using h1, by simpa using h2⟩
 | n + 1, new, [], k, r, h => by simp [putC] at h
 | n + 1, new, o :: old, k, r, h => by
  simp only [putC] at h
  obtain ⟨h1, h2⟩ := Q0 n new old _ r h
  refine ⟨by simp only [List.length_cons]; omega, ?_⟩
  rw [show n + 1 + new.length = (n + new.length) + 1 by omega]
  simpa using h2
theorem R5 (v : PV) : (cellsOf v).map PV.c = v.c.cells.toList := by
 cases v with
 | v x =>
  cases x <;> simp [cellsOf, PV.c, Value.cells]
  exact List.map_id' _
 | p b i off => simp [cellsOf, PV.c, Value.cells]
 | r A n cap i => simp [cellsOf, PV.c, Value.cells]
theorem al1 : ∀ (vs : List Value) (cs : Array Value) (off j : Nat), off + j + vs.length ≤ cs.size →
  (vs.zipIdx j).foldl (fun cs (c, j) => cs.setIfInBounds (off + j) c) cs = (cs.toList.take (off + j) ++ (vs ++ cs.toList.drop (off + j + vs.length))).toArray
 | [], cs, off, j, h => by
  simp only [List.zipIdx_nil, List.foldl_nil, List.nil_append, List.length_nil, Nat.add_zero, List.take_append_drop]
 | v :: vs, cs, off, j, h => by
  simp only [List.length_cons] at h
  simp only [List.zipIdx_cons, List.foldl_cons]
  rw [al1 vs _ off (j + 1) (by simp; omega)]
  congr 1
  simp only [Array.toList_setIfInBounds, List.length_cons]
  rw [show off + (j + 1) = (off + j) + 1 by omega, List.take_succ_eq_append_getElem (by simp; omega), List.getElem_set_self, List.take_set, List.set_eq_of_length_le (by simp; omega),
   List.drop_set_of_lt (by omega)]
  simp only [List.append_assoc, List.cons_append, List.nil_append]
  rw [show off + j + 1 + vs.length = off + j + (vs.length + 1) by omega]
theorem P0 {β : Type} {k : K} {place : Nat → Option (Nat × Nat)} (hp : ∀ i x, placeOf k i = some x → place i = some x) : ∀ (l : List (Nat × PV)) (cs : List PV) (f : List PV → Option β) (r : β),
  buildC k l cs f = some r → ∃ cs', f cs' = some r ∧ Instr.fill place (cs.map PV.c).toArray (l.map fun x => (x.1, x.2.c)) = some (cs'.map PV.c).toArray
 | [], cs, f, r, h => ⟨cs, h, rfl⟩
 | (i, v) :: l, cs, f, r, h => by
  simp only [buildC] at h
  cases hpl : placeOf k i with
  | none => simp [hpl] at h
  | some q =>
   obtain ⟨off, sz⟩ := q
   rw [hpl] at h
   simp only at h
   cases hb : Nat.beq (cellsOf v).length sz with
   | false => simp [hb] at h
   | true =>
    have hl := Nat.eq_of_beq_eq_true hb
    rw [hb] at h
    simp only [cond_true] at h
    obtain ⟨h1, h2⟩ := Q0 off _ _ _ r h
    obtain ⟨cs', h3, h4⟩ := P0 hp l _ f r h2
    refine ⟨cs', h3, ?_⟩
    have hc := R5 v
    have hcl : v.c.cells.size = sz := by rw [← hl, ← List.length_map (f := PV.c), hc]; simp
    simp only [List.map_cons, Instr.fill, hp i _ hpl]
    rw [if_neg (by simp only [hcl, List.size_toArray, List.length_map]; simp; omega)]
    rw [← h4]
    congr 1
    have := al1 v.c.cells.toList (cs.map PV.c).toArray off 0 (by simp only [Nat.add_zero, List.size_toArray, List.length_map, Array.length_toList, hcl]; omega)
    simp only [Nat.add_zero] at this
    rw [← Array.foldl_toList, Array.toList_zipIdx, this]
    simp only [List.map_append, List.map_take, List.map_drop, hc, Array.length_toList, hcl]
    rw [hl]
end
section
variable {P : Program} {T : TT} {N B : Nat} {ds : List Nat} {w0 w : World} {Ps : Past} {σ : St} {a : Act}
theorem aK0 {op : BinOp} {k : IntKind} {x y : Int} {ob ob' : List Prop} {r : PV} (h : arith op k x y ob = some (r, ob')) (hob : AllP ob') :
  (∀ t, (binOp op t (.int k x) (.int k y)).run P w = .ok r.c w) ∧ AllP ob := by
 cases op <;> simp only [arith, Option.some.injEq, Prod.mk.injEq, reduceCtorEq] at h
 all_goals obtain ⟨rfl, rfl⟩ := h
 case add => exact ⟨fun t => by simp [binOp, Op.intArith, PV.c, J2 hob.1], hob.2⟩
 case sub => exact ⟨fun t => by simp [binOp, Op.intArith, PV.c, J2 hob.1], hob.2⟩
 case mul => exact ⟨fun t => by simp [binOp, Op.intArith, PV.c, J2 hob.1], hob.2⟩
 case quo =>
  obtain ⟨⟨h0, h1, h2⟩, h3⟩ := hob
  refine ⟨fun t => ?_, h3⟩
  have e1 : x.tdiv y = x / y := Int.tdiv_eq_ediv_of_nonneg h0
  have e2 : inR k (x / y) := by
   have g1 : x / y ≤ x := Int.ediv_le_self y h0
   have g2 : 0 ≤ x / y := Int.ediv_nonneg h0 (Int.le_of_lt h1)
   cases k <;> simp only [inR] at h2 ⊢ <;> omega
  have hy : ¬ y = 0 := by omega
  simp [binOp, Op.intDiv, PV.c, e1, J2 e2, hy]
 case rem =>
  obtain ⟨⟨h0, h1⟩, h3⟩ := hob
  refine ⟨fun t => ?_, h3⟩
  have e1 : x.tmod y = x % y := Int.tmod_eq_emod_of_nonneg h0
  have hy : ¬ y = 0 := by omega
  simp [binOp, Op.intDiv, PV.c, e1, hy]
 all_goals exact ⟨fun t => by simp [binOp, Op.intCmp, PV.c], hob⟩
theorem O7 (op : BinOp) (t : TypeId) (x y : Operand) (k k' : IntKind) (m n : Int) : (eqGuard op t x y (.int k m) (.int k' n)).run P w = .ok () w := by
 unfold eqGuard
 cases op <;> simp
theorem J4 (op : BinOp) (t : TypeId) (x y : Operand) (m n : ByteArray) : (eqGuard op t x y (.string m) (.string n)).run P w = .ok () w := by
 unfold eqGuard
 cases op <;> simp
theorem aR8 {op : BinOp} {x y : PV} {ob ob' : List Prop} {r : PV} (h : binV op x y ob = some (r, ob')) (hob : AllP ob') :
  (∀ t xo yo, (do eqGuard op t xo yo x.c y.c; binOp op t x.c y.c : Sem Value).run P w = .ok r.c w) ∧ AllP ob := by
 unfold binV at h
 split at h
 ·rename_i k m k' n
  obtain ⟨h1, h2⟩ := aK0 (P := P) (w := w) h hob
  obtain ⟨rfl, h3⟩ := h2
  exact ⟨fun t xo yo => by simp only [PV.c, Sem.run_bind, O7, Result.andThen_ok]; exact h1 t, h3⟩
 ·rename_i m n
  split at h
  ·simp only [Option.some.injEq, Prod.mk.injEq] at h
   obtain ⟨rfl, rfl⟩ := h
   exact ⟨fun t xo yo => by simp only [PV.c, Sem.run_bind, J4, Result.andThen_ok]; simp [binOp, Op.stringOp], hob⟩
  ·simp only [Option.some.injEq, Prod.mk.injEq] at h
   obtain ⟨rfl, rfl⟩ := h
   exact ⟨fun t xo yo => by simp only [PV.c, Sem.run_bind, J4, Result.andThen_ok]; simp [binOp, Op.stringOp], hob⟩
  ·cases h
 ·cases h
theorem be5 {ca cb : Operand} {c : Bool} {x y : PV} {ob ob' : List Prop} {r : PV} (h : pickV ca cb c x y ob = some (r, ob')) (hob : AllP ob') :
  r.c = (if c then x.c else y.c) ∧ AllP ob := by
 unfold pickV at h
 split at h
 ·rename_i p q
  split at h
  ·simp only [Option.some.injEq, Prod.mk.injEq] at h
   obtain ⟨rfl, rfl⟩ := h
   obtain ⟨rfl, h2⟩ := hob
   exact ⟨by cases c <;> simp [PV.c], h2⟩
  ·split at h
   ·simp only [Option.some.injEq, Prod.mk.injEq] at h
    obtain ⟨rfl, rfl⟩ := h
    obtain ⟨rfl, h2⟩ := hob
    exact ⟨by cases c <;> simp [PV.c], h2⟩
   ·simp only [Option.some.injEq, Prod.mk.injEq] at h
    obtain ⟨rfl, rfl⟩ := h
    exact ⟨by cases c <;> simp [PV.c], hob⟩
 ·cases h
theorem HW.cell (hw : HW B w0 Ps σ w) {i : Nat} {x : Bx} (h : nth σ.bx i = some x) (j : Nat) : w.cell? ⟨x.b, j, none⟩ = x.cs[j]?.map PV.c := by
 have := (hw.box x (F7 h)).2
 simp [World.cell?, this]
theorem aA0 (hw : HW B w0 Ps σ w) {i : Nat} {x : Bx} (h : nth σ.bx i = some x) (off n : Nat) : w.rangeAt x.b off (((x.cs.drop off).take n).map PV.c) := by
 intro j v hj
 rw [hw.cell h]
 rw [List.getElem?_map, List.getElem?_take] at hj
 split at hj
 ·rw [List.getElem?_drop] at hj
  exact hj
 ·simp at hj
theorem M7 (hT : TOk P T) (ha : HA N ds σ a) (hw : HW B w0 Ps σ w) {ctx : List (Bool × Bool)} (hc : gOk ctx = true) {o : Oper} {r : PV} {ob : List Prop}
  (h : opV T σ ctx o = some (r, ob)) (hob : AllP ob) : (execOp a.eval o).run P w = .ok (.value r.c) w := by
 obtain ⟨dst, op, ty, pos, after, guard⟩ := o
 cases op <;> simp only [opV, reduceCtorEq] at h
 case move x => simp [execOp, (q5 ha hc h hob).1]
 case assign x => simp [execOp, (q5 ha hc h hob).1]
 case pick c x y =>
  split at h
  ·rename_i cv ob1 h1
   split at h
   ·rename_i xv ob2 h2
    split at h
    ·rename_i yv ob3 h3
     obtain ⟨h4, h5⟩ := be5 h hob
     obtain ⟨h6, h7⟩ := aD8 ha hc h3 h5
     obtain ⟨h8, h9⟩ := aD8 ha hc h2 h7
     obtain ⟨h10, _⟩ := q5 ha hc h1 h9
     rw [h4]
     have hcc : (PV.v (Value.bool cv)).c = .bool cv := rfl
     simp only [execOp, h10, hcc, asBool, Sem.run_bind, Sem.run_pure, Result.andThen_ok]
     cases cv
     ·simp [h6 rfl]
     ·simp [h8 rfl]
    ·cases h
   ·cases h
  ·cases h
 case build t parts =>
  split at h
  ·rename_i ti hl
   obtain ⟨i, d, z, hi, hu, hz, rfl⟩ := hT.row hl
   have hzm : (z.cells.toList.map PV.v).map PV.c = z.cells.toList := by
    rw [List.map_map]
    exact List.map_id' _
   have hrun : ∀ (k : K) (place : Nat → Option (Nat × Nat)), (∀ i x, placeOf k i = some x → place i = some x) →
     (partsV σ ctx parts.toList [] fun l ob => buildC k l (z.cells.toList.map .v) fun cs => takeC cs.length cs fun vs => some (PV.v (.agg vs.toArray), ob)) = some (r, ob) →
     ∃ cells, Instr.fill place z.cells (parts.map fun x => (x.1, a.eval x.2)).toList = some cells ∧ r = .v (.agg cells) := by
    intro k place hpl h
    obtain ⟨l', ob', hk, hp⟩ := E0 ha hc _ _ _ _ h
    obtain ⟨cs', h3, h4⟩ := P0 hpl _ _ _ _ hk
    obtain ⟨_, h2⟩ := N0 _ _ _ _ h3
    simp only [List.take_length, Option.some.injEq, Prod.mk.injEq] at h2
    obtain ⟨rfl, rfl⟩ := h2
    have h5 := (hp hob).1
    rw [hzm] at h4
    refine ⟨_, ?_, rfl⟩
    rw [Array.toList_map, h5]
    simpa using h4
   split at h
   ·rename_i fs hk
    obtain ⟨fl, rfl, hm⟩ := N1 hk
    obtain ⟨cells, hf, rfl⟩ := hrun _ (fun i => (fs.map fun x => (x.1, x.2.1)).toArray[i]?) (by
     intro j x hx
     simp only [placeOf, E1] at hx
     cases hj : fs[j]? with
     | none => simp [hj] at hx
     | some y =>
      simp only [hj, Option.some.injEq] at hx
      simp [hj, hx]) h
    have hb : P.built t (parts.map fun x => (x.1, a.eval x.2)).toList = some cells := by
     simp only [Program.built, hi, hu, hz, ak9 hm]
     exact hf
    simp [execOp, run_build w t _ _ hb, PV.c]
   ·rename_i n e es er hk
    obtain ⟨rfl, ie, u, hie, _, hes, _⟩ := R2 hk
    obtain ⟨cells, hf, rfl⟩ := hrun _ (fun i => some (i * ie.size, ie.size)) (by
     intro j x hx
     simp only [placeOf, Option.some.injEq] at hx
     rw [← hx, hes]) h
    have hb : P.built t (parts.map fun x => (x.1, a.eval x.2)).toList = some cells := by
     simp only [Program.built, hi, hu, hz, hie]
     exact hf
    simp [execOp, run_build w t _ _ hb, PV.c]
   ·cases h
  ·cases h
 case load t x =>
  split at h
  ·rename_i b i off ob1 h1
   split at h
   ·rename_i bx hbx
    split at h
    ·rename_i ti hl
     obtain ⟨ii, d, z, hi, hu, hz, rfl⟩ := hT.row hl
     split at h
     ·rename_i hrow
      obtain ⟨h2, h3⟩ := N0 _ _ _ _ h
      simp only [Option.some.injEq, Prod.mk.injEq] at h3
      obtain ⟨rfl, rfl⟩ := h3
      obtain ⟨rfl, hob1⟩ := hob
      obtain ⟨h4, _⟩ := q5 ha hc h1 hob1
      have h2' : ii.size ≤ (dropC off bx.cs).length := h2
      have hlen : (List.map PV.c (List.take ii.size (dropC off bx.cs))).length = ii.size := by simp only [List.length_map, List.length_take]; omega
      have hr := aA0 hw hbx off ii.size
      rw [← I9] at hr
      have := run_loadAt_mid (P := P) w bx.b off t _ d hr hu (by rw [← av5]; exact hrow) (by rw [hi, hlen]; rfl)
      simp [execOp, h4, PV.c, this]
     ·rename_i hrow
      split at h
      ·rename_i cv rest hcs
       simp only [Option.some.injEq, Prod.mk.injEq] at h
       obtain ⟨rfl, rfl⟩ := h
       obtain ⟨rfl, hob1⟩ := hob
       obtain ⟨h4, _⟩ := q5 ha hc h1 hob1
       have hcell := hw.cell hbx off
       have : bx.cs[off]? = some cv := by
        rw [I9] at hcs
        have : (bx.cs.drop off)[0]? = some cv := by rw [hcs]; rfl
        rwa [List.getElem?_drop, Nat.add_zero] at this
       rw [this] at hcell
       simp only [Option.map_some] at hcell
       have hrow' : rowOf d = false := hrow
       have hcc : (PV.p bx.b i off).c = .pointer (some ⟨bx.b, off, none⟩) := rfl
       simp [execOp, h4, hcc, Instr.loadAt, Instr.sureAddr, loadVar, H0 hu, hrow', hcell]
      ·cases h
    ·cases h
   ·cases h
  ·cases h
 case fieldAddr t x f =>
  split at h
  ·rename_i b i off ob1 h1
   split at h
   ·rename_i ti hl
    obtain ⟨ii, d, z, hi, hu, hz, rfl⟩ := hT.row hl
    split at h
    ·rename_i fs hk
     obtain ⟨fl, rfl, hm⟩ := N1 hk
     split at h
     ·rename_i foff fsz frow hf
      split at h
      ·cases h
      ·rename_i m
       simp only [Option.some.injEq, Prod.mk.injEq] at h
       obtain ⟨rfl, rfl⟩ := h
       obtain ⟨h4, _⟩ := q5 ha hc h1 hob
       obtain ⟨fd, hfd, rfl, fi, u, hfi, _, hfs, _⟩ := ag2 hm hf
       have hsz : (sizeOf fd.type).run P w = .ok (m + 1) w := by simp [sizeOf, typeInfo, hfi, hfs]
       have hadd : (⟨b, off, none⟩ : Addr).add fd.offset = ⟨b, off + fd.offset, none⟩ := Addr.add_mid _ _ _
       simp [execOp, h4, Instr.fieldAt, run_underlying hu, hfd, Instr.sureAddr, fieldPlace, hsz, hadd, PV.c]
     ·cases h
    ·cases h
   ·cases h
  ·rename_i ad ob1 h1
   split at h
   ·rename_i ti hl
    obtain ⟨ii, d, z, hi, hu, hz, rfl⟩ := hT.row hl
    split at h
    ·rename_i fs hk
     obtain ⟨fl, rfl, hm⟩ := N1 hk
     split at h
     ·rename_i foff fsz frow hf
      split at h
      ·cases h
      ·rename_i m
       simp only [Option.some.injEq, Prod.mk.injEq] at h
       obtain ⟨rfl, rfl⟩ := h
       obtain ⟨h4, _⟩ := q5 ha hc h1 hob
       obtain ⟨fd, hfd, rfl, fi, u, hfi, _, hfs, _⟩ := ag2 hm hf
       have hsz : (sizeOf fd.type).run P w = .ok (m + 1) w := by simp [sizeOf, typeInfo, hfi, hfs]
       simp [execOp, h4, Instr.fieldAt, run_underlying hu, hfd, Instr.sureAddr, fieldPlace, hsz, PV.c]
     ·cases h
    ·cases h
   ·cases h
  ·cases h
 case field t x f =>
  split at h
  ·rename_i cs ob1 h1
   split at h
   ·rename_i ti hl
    obtain ⟨ii, d, z, hi, hu, hz, rfl⟩ := hT.row hl
    split at h
    ·rename_i fs hk
     obtain ⟨fl, rfl, hm⟩ := N1 hk
     split at h
     ·rename_i foff fsz frow hf
      obtain ⟨fd, hfd, rfl, fi, u, hfi, hfu, hfs, hfr⟩ := ag2 hm hf
      have hsz : (sizeOf fd.type).run P w = .ok fsz w := by simp [sizeOf, typeInfo, hfi, hfs]
      split at h
      ·obtain ⟨h2, h3⟩ := T9 _ _ _ _ h
       simp only [Option.some.injEq, Prod.mk.injEq] at h3
       obtain ⟨rfl, rfl⟩ := h3
       obtain ⟨h4, _⟩ := q5 ha hc h1 hob
       rw [I9]
       have he : cs.extract fd.offset (fd.offset + fsz) = (List.take fsz (List.drop fd.offset cs.toList)).toArray := by
        apply Array.toList_inj.1
        simp [List.extract_eq_take_drop]
       simp [execOp, h4, Instr.field, run_underlying hu, hfd, asAgg, part, H0 hfu, hfr, hsz, he, PV.c]
      ·split at h
       ·rename_i xv rest hcs
        simp only [Option.some.injEq, Prod.mk.injEq] at h
        obtain ⟨rfl, rfl⟩ := h
        obtain ⟨h4, _⟩ := q5 ha hc h1 hob
        have hx : cs[fd.offset]? = some xv := by
         rw [I9] at hcs
         have : (cs.toList.drop fd.offset)[0]? = some xv := by rw [hcs]; rfl
         rwa [List.getElem?_drop, Nat.add_zero, Array.getElem?_toList] at this
        simp [execOp, h4, Instr.field, run_underlying hu, hfd, asAgg, part, H0 hfu, hfr, hx, PV.c]
       ·cases h
     ·cases h
    ·cases h
   ·cases h
  ·cases h
 case binOp op t x y yt =>
  split at h
  ·rename_i av ob1 h1
   split at h
   ·rename_i bv ob2 h2
    obtain ⟨h3, h4⟩ := aR8 (P := P) (w := w) h hob
    obtain ⟨h5, h6⟩ := q5 ha hc h2 h4
    obtain ⟨h7, _⟩ := q5 ha hc h1 h6
    have := h3 t x y
    simp only [Sem.run_bind] at this
    simp only [execOp, h5, h7, Sem.run_bind]
    generalize (eqGuard op t x y av.c bv.c).run P w = q at this ⊢
    cases q with
    | ok u w1 =>
     simp only [Result.andThen_ok] at this ⊢
     rw [this]
     rfl
    | halt e w1 => cases this
   ·cases h
  ·cases h
 case unOp op t x =>
  split at h
  ·rename_i av ob1 h1
   split at h
   ·simp only [Option.some.injEq, Prod.mk.injEq] at h
    obtain ⟨rfl, rfl⟩ := h
    obtain ⟨h4, _⟩ := q5 ha hc h1 hob
    simp [execOp, h4, PV.c, Op.unary]
   ·cases h
  ·rename_i k n ob1 h1
   split at h
   ·simp only [Option.some.injEq, Prod.mk.injEq] at h
    obtain ⟨rfl, rfl⟩ := h
    obtain ⟨h5, hob1⟩ := hob
    obtain ⟨h4, _⟩ := q5 ha hc h1 hob1
    have := J2 h5
    simp only [Int.zero_sub] at this ⊢
    simp [execOp, h4, PV.c, Op.unary, Op.intArith, this]
   ·cases h
  ·cases h
 case convert s d x =>
  split at h
  ·rename_i kk n ob1 h1
   split at h
   ·rename_i ti hl
    obtain ⟨ii, dd, z, hi, hu, hz, rfl⟩ := hT.row hl
    split at h
    ·rename_i k hk
     have hk' := bb0 hk
     subst hk'
     split at h
     ·rename_i ti2 hl2
      obtain ⟨ii2, dd2, z2, hi2, hu2, hz2, rfl⟩ := hT.row hl2
      simp only [Option.some.injEq, Prod.mk.injEq] at h
      obtain ⟨rfl, rfl⟩ := h
      obtain ⟨h5, hob1⟩ := hob
      obtain ⟨h4, _⟩ := q5 ha hc h1 hob1
      simp [execOp, h4, PV.c, convert, run_underlying hu, run_underlying hu2, Conv.intToInt, J2 h5]
     ·cases h
    ·cases h
   ·cases h
  ·cases h
 case extract x i =>
  split at h
  ·rename_i vs ob1 h1
   split at h
   ·rename_i v hv
    simp only [Option.some.injEq, Prod.mk.injEq] at h
    obtain ⟨rfl, rfl⟩ := h
    obtain ⟨h4, _⟩ := q5 ha hc h1 hob
    rw [E1, Array.getElem?_toList] at hv
    simp [execOp, h4, PV.c, Instr.extract, hv]
   ·cases h
  ·cases h
 case nilCheck x =>
  split at h
  ·rename_i b i off ob1 h1
   simp only [Option.some.injEq, Prod.mk.injEq] at h
   obtain ⟨rfl, rfl⟩ := h
   obtain ⟨h4, _⟩ := q5 ha hc h1 hob
   simp [execOp, h4, PV.c]
  ·rename_i ad ob1 h1
   simp only [Option.some.injEq, Prod.mk.injEq] at h
   obtain ⟨rfl, rfl⟩ := h
   obtain ⟨h4, _⟩ := q5 ha hc h1 hob
   simp [execOp, h4, PV.c]
  ·cases h
 case makeFunc fn first cap =>
  obtain ⟨l', ob', hk, hp⟩ := E0 ha hc _ _ _ _ h
  obtain ⟨l2, ob2, hk2, hp2⟩ := E0 ha hc _ _ _ _ hk
  have hk3 := H2 _ _ _ (H2 _ _ _ hk2)
  simp only [Option.some.injEq, Prod.mk.injEq] at hk3
  obtain ⟨rfl, rfl⟩ := hk3
  obtain ⟨h1, h2⟩ := hp2 hob
  obtain ⟨h3, _⟩ := hp h2
  have e1 : first.map a.eval = (l'.map fun x => x.2.c).toArray := by
   apply Array.toList_inj.1
   have := congrArg (List.map Prod.snd) h3
   simpa [List.map_map, Function.comp_def] using this
  have e2 : cap.map a.eval = (l2.map fun x => x.2.c).toArray := by
   apply Array.toList_inj.1
   have := congrArg (List.map Prod.snd) h1
   simpa [List.map_map, Function.comp_def] using this
  simp [execOp, Instr.makeFunc, PV.c, e1, e2]
 case index t x ix =>
  split at h
  ·rename_i cs ob1 h1
   split at h
   ·rename_i kk n ob2 h2
    split at h
    ·rename_i ti hl
     obtain ⟨ii, d, z, hi, hu, hz, rfl⟩ := hT.row hl
     have hin : (PV.v (Value.int kk n)).c = .int kk n := rfl
     have hag : (PV.v (Value.agg cs)).c = .agg cs := rfl
     split at h
     ·rename_i len e es er hk
      obtain ⟨rfl, ie, ue, hie, hue, hes, hrow⟩ := R2 hk
      have hsz : (sizeOf e).run P w = .ok es w := by simp [sizeOf, typeInfo, hie, hes]
      split at h
      ·obtain ⟨g1, g2⟩ := T9 _ _ _ _ h
       simp only [Option.some.injEq, Prod.mk.injEq] at g2
       obtain ⟨rfl, rfl⟩ := g2
       obtain ⟨h5, hob1⟩ := hob
       obtain ⟨h6, hob2⟩ := q5 ha hc h2 hob1
       obtain ⟨h7, _⟩ := q5 ha hc h1 hob2
       rw [I9]
       have he : cs.extract (n.toNat * es) (n.toNat * es + es) = (List.take es (List.drop (n.toNat * es) cs.toList)).toArray := by
        apply Array.toList_inj.1
        simp [List.extract_eq_take_drop]
       simp [execOp, h6, h7, hin, hag, Instr.index, asIntOf, run_underlying hu, h5.1, h5.2, hsz, part, H0 hue, hrow, he, PV.c]
      ·split at h
       ·rename_i xv rest hcs
        simp only [Option.some.injEq, Prod.mk.injEq] at h
        obtain ⟨rfl, rfl⟩ := h
        obtain ⟨h5, hob1⟩ := hob
        obtain ⟨h6, hob2⟩ := q5 ha hc h2 hob1
        obtain ⟨h7, _⟩ := q5 ha hc h1 hob2
        have hx : cs[n.toNat * es]? = some xv := by
         rw [I9] at hcs
         have : (cs.toList.drop (n.toNat * es))[0]? = some xv := by rw [hcs]; rfl
         rwa [List.getElem?_drop, Nat.add_zero, Array.getElem?_toList] at this
        simp [execOp, h6, h7, hin, hag, Instr.index, asIntOf, run_underlying hu, h5.1, h5.2, hsz, part, H0 hue, hrow, hx, PV.c]
       ·cases h
     ·cases h
    ·cases h
   ·cases h
  ·cases h
 case indexAddr t x ix =>
  split at h
  ·rename_i xv ob1 h1
   split at h
   ·rename_i kk n ob2 h2
    split at h
    ·rename_i ti hl
     obtain ⟨ii, d, z, hi, hu, hz, rfl⟩ := hT.row hl
     have hin : (PV.v (Value.int kk n)).c = .int kk n := rfl
     split at h
     ·rename_i len e es er hk
      obtain ⟨rfl, ie, ue, hie, _, hes, _⟩ := R2 hk
      have hsz : (sizeOf e).run P w = .ok es w := by simp [sizeOf, typeInfo, hie, hes]
      split at h
      ·rename_i b i off
       simp only [Option.some.injEq, Prod.mk.injEq] at h
       obtain ⟨rfl, rfl⟩ := h
       obtain ⟨h5, hob1⟩ := hob
       obtain ⟨h6, hob2⟩ := q5 ha hc h2 hob1
       obtain ⟨h7, _⟩ := q5 ha hc h1 hob2
       simp [execOp, h6, h7, PV.c, Instr.indexAt, asIntOf, run_underlying hu, Instr.sureAddr, h5.1, h5.2, hsz, Addr.add_mid]
      ·rename_i ad
       simp only [Option.some.injEq, Prod.mk.injEq] at h
       obtain ⟨rfl, rfl⟩ := h
       obtain ⟨h5, hob1⟩ := hob
       obtain ⟨h6, hob2⟩ := q5 ha hc h2 hob1
       obtain ⟨h7, _⟩ := q5 ha hc h1 hob2
       simp [execOp, h6, h7, PV.c, Instr.indexAt, asIntOf, run_underlying hu, Instr.sureAddr, h5.1, h5.2, hsz]
      ·cases h
     ·rename_i e es hk
      obtain ⟨rfl, ie, hie, hes⟩ := D5 hk
      have hsz : (sizeOf e).run P w = .ok es w := by simp [sizeOf, typeInfo, hie, hes]
      split at h
      ·rename_i ad len cap
       simp only [Option.some.injEq, Prod.mk.injEq] at h
       obtain ⟨rfl, rfl⟩ := h
       obtain ⟨h5, hob1⟩ := hob
       obtain ⟨h6, hob2⟩ := q5 ha hc h2 hob1
       obtain ⟨h7, _⟩ := q5 ha hc h1 hob2
       simp [execOp, h6, h7, PV.c, Instr.indexAt, asIntOf, run_underlying hu, h5.1, h5.2, hsz]
      ·rename_i ad len cap i
       simp only [Option.some.injEq, Prod.mk.injEq] at h
       obtain ⟨rfl, rfl⟩ := h
       obtain ⟨h5, hob1⟩ := hob
       obtain ⟨h6, hob2⟩ := q5 ha hc h2 hob1
       obtain ⟨h7, _⟩ := q5 ha hc h1 hob2
       simp [execOp, h6, h7, PV.c, Instr.indexAt, asIntOf, run_underlying hu, h5.1, h5.2, hsz]
      ·cases h
     ·cases h
    ·cases h
   ·cases h
  ·cases h
 case call c =>
  obtain ⟨callee, args, argTypes⟩ := c
  simp only at h
  split at h
  ·split at h
   ·rename_i x hargs
    split at h
    ·rename_i t htys
     split at h
     ·rename_i xv ob1 h1
      split at h
      ·rename_i ti hl
       obtain ⟨ii, d, z, hi, hu, hz, rfl⟩ := hT.row hl
       have ea : args = #[x] := Array.toList_inj.1 hargs
       have et : argTypes = #[t] := Array.toList_inj.1 htys
       subst ea; subst et
       split at h
       ·rename_i hk
        have hk' := aH9 hk
        subst hk'
        split at h
        ·simp only [Option.some.injEq, Prod.mk.injEq] at h
         obtain ⟨rfl, rfl⟩ := h
         obtain ⟨h7, _⟩ := q5 ha hc h1 hob
         simp [execOp, resolve, invoke, builtin, Builtin.len_, h7, PV.c, run_underlying hu, goInt]
        ·cases h
       ·rename_i e es hk
        obtain ⟨rfl, ie, hie, hes⟩ := D5 hk
        split at h
        ·simp only [Option.some.injEq, Prod.mk.injEq] at h
         obtain ⟨rfl, rfl⟩ := h
         obtain ⟨h7, _⟩ := q5 ha hc h1 hob
         simp [execOp, resolve, invoke, builtin, Builtin.len_, h7, PV.c, run_underlying hu, goInt]
        ·simp only [Option.some.injEq, Prod.mk.injEq] at h
         obtain ⟨rfl, rfl⟩ := h
         obtain ⟨h7, _⟩ := q5 ha hc h1 hob
         simp [execOp, resolve, invoke, builtin, Builtin.len_, h7, PV.c, run_underlying hu, goInt]
        ·cases h
       ·rename_i n e es er hk
        obtain ⟨rfl, _⟩ := R2 hk
        simp only [Option.some.injEq, Prod.mk.injEq] at h
        obtain ⟨rfl, rfl⟩ := h
        simp [execOp, resolve, invoke, builtin, Builtin.len_, PV.c, run_underlying hu, goInt]
       ·cases h
      ·cases h
     ·cases h
    ·cases h
   ·cases h
  ·split at h
   ·rename_i x y hargs
    split at h
    ·rename_i k m ob1 h1
     split at h
     ·rename_i k2 n ob2 h2
      simp only [Option.some.injEq, Prod.mk.injEq] at h
      obtain ⟨rfl, rfl⟩ := h
      obtain ⟨h6, hob1⟩ := q5 ha hc h2 hob
      obtain ⟨h7, _⟩ := q5 ha hc h1 hob1
      have ea : args = #[x, y] := Array.toList_inj.1 hargs
      subst ea
      have hm : (if n > m then n else m) = max m n := by
       by_cases hh : n > m
       ·rw [if_pos hh]; omega
       ·rw [if_neg hh]; omega
      simp [execOp, resolve, invoke, builtin, Builtin.max_, Builtin.max2, h6, h7, PV.c]
      omega
     ·cases h
    ·cases h
   ·cases h
  ·split at h
   ·rename_i x y hargs
    split at h
    ·rename_i k m ob1 h1
     split at h
     ·rename_i k2 n ob2 h2
      simp only [Option.some.injEq, Prod.mk.injEq] at h
      obtain ⟨rfl, rfl⟩ := h
      obtain ⟨h6, hob1⟩ := q5 ha hc h2 hob
      obtain ⟨h7, _⟩ := q5 ha hc h1 hob1
      have ea : args = #[x, y] := Array.toList_inj.1 hargs
      subst ea
      simp [execOp, resolve, invoke, builtin, Builtin.min_, Builtin.min2, h6, h7, PV.c]
      omega
     ·cases h
    ·cases h
   ·cases h
  ·cases h
end
def gctx (l0 : List Oper) (σ : St) : Option (Nat × Bool) → Option (List (Bool × Bool))
 | none => some []
 | some (j, w) => match nth l0 j with
  | some o => match o.dst with
   | some d => match look σ.sl d with
    | some (.s (.v (.bool c))) => some [(c, w)]
    | some (.g gs (.v (.bool c))) => some (gs ++ [(c, w)])
    | _ => none
   | none => none
  | none => none
def one1 : PV → Bool
 | .v x => x.oneCell'
 | _ => true
def oneAll : List PV → Bool
 | [] => true
 | x :: r => one1 x && oneAll r
def bOf : Bx → Nat
 | ⟨b, _, _⟩ => b
def storeV (T : TT) (sl : List (Nat × AV)) (bx : List Bx) (rw : List Rw) (o : Oper) : Option (St × List Prop) :=
 match o.op with
 | .store t x y => match o.dst with
  | none => match evp ⟨sl, bx, rw⟩ [] x [] with
   | some (.p b i off, ob) => match evp ⟨sl, bx, rw⟩ [] y ob with
    | some (v, ob) => match look T t with
     | some ti => match nth bx i with
      | some x0 => bif Nat.beq (cellsOf v).length ti.size then
        updB i bx (fun y k => match y with | ⟨yb, yt, ycs⟩ => putC off (cellsOf v) ycs fun cs => k ⟨yb, yt, cs⟩) fun bs =>
         some (⟨sl, bs, rw⟩, (b = bOf x0) :: (oneAll (cellsOf v) = true) :: ob)
       else none
      | none => none
     | none => none
    | none => none
   | _ => none
  | some _ => none
 | _ => none
def impL (gs : List (Bool × Bool)) : List Prop → List Prop
 | [] => []
 | p :: ps => [imp gs (AllP (p :: ps))]
def isStore : Op → Bool
 | .store .. => true
 | _ => false
def step (T : TT) (N : Nat) (l0 : List Oper) (o : Oper) : St → Option (St × List Prop)
 | ⟨sl, bx, rw⟩ => match gctx l0 ⟨sl, bx, rw⟩ o.guard with
 | none => none
 | some ctx => match isStore o.op with
  | true => match ctx with
   | [] => storeV T sl bx rw o
   | _ :: _ => none
  | false => match opV T ⟨sl, bx, rw⟩ ctx o with
   | some (r, ob) => match o.dst with
    | some d => match Nat.blt d N with
     | true => match ctx with
      | [] => some (⟨(d, .s r) :: sl, bx, rw⟩, ob)
      | c :: gs => some (⟨(d, .g (c :: gs) r) :: sl, bx, rw⟩, impL (c :: gs) ob)
     | false => none
    | none => none
   | none => none
def run (T : TT) (N : Nat) (l0 : List Oper) : List Oper → St → List Prop → List Oper × St × List Prop
 | [], σ, ob => ([], σ, ob)
 | o :: l, σ, ob => match step T N l0 o σ with
  | some (σ', ob') => match ob' with
   | [] => run T N l0 l σ' ob
   | p :: ps => run T N l0 l σ' (AllP (p :: ps) :: ob)
  | none => (o :: l, σ, ob)
section
variable {P : Program} {T : TT} {N B : Nat} {ds : List Nat} {w0 w : World} {Ps : Past} {σ σ' : St} {a : Act}
theorem az2 (g h : List (Bool × Bool)) : gOk (g ++ h) = (gOk g && gOk h) := by
 induction g with
 | nil => simp [gOk]
 | cons x g ih => obtain ⟨c, w⟩ := x; simp [gOk, ih, Bool.and_assoc]
theorem aC3 {l0 : List Oper} {j d : Nat} {o : Oper} (hn : nth l0 j = some o) (hd : o.dst = some d) (tmps : Array Value) :
  yielded l0.toArray tmps j = match tmps[d]? with | some (.bool b) => some b | _ => none := by
 rw [E1] at hn
 unfold yielded
 simp [hn, hd]
 rfl
theorem N7 (ha : HA N ds σ a) {l0 : List Oper} {o : Oper} {ctx : List (Bool × Bool)} (h : gctx l0 σ o.guard = some ctx) :
  Region.wanted o (yielded l0.toArray a.tmps) = gOk ctx := by
 unfold Region.wanted
 generalize o.guard = g at h ⊢
 match g, h with
 | none, h => simp only [gctx, Option.some.injEq] at h; subst h; rfl
 | some (j, wt), h =>
  simp only [gctx] at h
  split at h
  ·rename_i o' hn
   split at h
   ·rename_i d hd
    have hy := aC3 hn hd a.tmps
    split at h
    ·rename_i c hl
     simp only [Option.some.injEq] at h
     subst h
     rw [ha.at_ d _ hl] at hy
     simp only [AV.c, PV.c] at hy
     show (yielded l0.toArray a.tmps j == some wt) = _
     rw [hy]
     cases c <;> cases wt <;> rfl
    ·rename_i gs c hl
     simp only [Option.some.injEq] at h
     subst h
     rw [ha.at_ d _ hl] at hy
     rw [az2]
     cases hg : gOk gs with
     | true =>
      simp only [AV.c, hg, PV.c] at hy
      simp only [if_true] at hy
      show (yielded l0.toArray a.tmps j == some wt) = _
      rw [hy]
      cases c <;> cases wt <;> rfl
     | false =>
      simp only [AV.c, hg, Bool.false_eq_true, if_false] at hy
      simp only [undef] at hy
      show (yielded l0.toArray a.tmps j == some wt) = _
      rw [hy]
      cases wt <;> rfl
    ·cases h
   ·cases h
  ·cases h
theorem HA.put (ha : HA N ds σ a) {d : Nat} (hd : d < N) (v : AV) {σ' : St} (hs : σ'.sl = (d, v) :: σ.sl) : HA N ds σ' (a.put (some d) v.c) := by
 refine ⟨by simp [Act.put, ha.size], ha.defers, fun t u hu => ?_⟩
 rw [hs] at hu
 simp only [look] at hu
 cases hb : Nat.beq d t with
 | true =>
  have := Nat.eq_of_beq_eq_true hb
  subst this
  rw [hb] at hu
  simp only [cond_true, Option.some.injEq] at hu
  subst hu
  simp [Act.put, ha.size, hd]
 | false =>
  rw [hb] at hu
  simp only [cond_false] at hu
  have hne : d ≠ t := by
   intro e
   subst e
   simp at hb
  have := ha.at_ t u hu
  simp [Act.put, hne, this]
theorem HA.same (ha : HA N ds σ a) {σ' : St} (hs : σ'.sl = σ.sl) : HA N ds σ' a := ⟨ha.size, ha.defers, fun t u hu => ha.at_ t u (by rw [← hs]; exact hu)⟩
theorem HW.same (hw : HW B w0 Ps σ w) {σ' : St} (h1 : σ'.bx = σ.bx) (h2 : σ'.rw = σ.rw) : HW B w0 Ps σ' w := by
 refine ⟨hw.below, hw.bsize, by rw [h1]; exact hw.nodup, by rw [h1]; exact hw.box, by rw [h1]; exact hw.past, by rw [h1, h2]; exact hw.row, by rw [h2]; exact hw.apart, hw.old⟩
theorem aN7 : ∀ (g : List (Bool × Bool)) (p : Prop), imp g p → gOk g = true → p
 | [], p, h, _ => h
 | (c, w) :: g, p, h, hg => by
  simp only [gOk, Bool.and_eq_true, beq_iff_eq] at hg
  exact aN7 g p (h hg.1) hg.2
theorem an1 {g : List (Bool × Bool)} {ob : List Prop} (h : AllP (impL g ob)) (hg : gOk g = true) : AllP ob := by
 cases ob with
 | nil => exact trivial
 | cons p ps => exact aN7 g _ h.1 hg
theorem aa2 : ∀ {l : List PV}, oneAll l = true → ∀ v ∈ l.map PV.c, v.oneCell' = true
 | [], _, v, hv => by simp at hv
 | x :: r, h, v, hv => by
  simp only [oneAll, Bool.and_eq_true] at h
  simp only [List.map_cons, List.mem_cons] at hv
  rcases hv with rfl | hv
  ·cases x with
   | v y => exact h.1
   | p b i off => rfl
   | r A n cap i => rfl
  ·exact aa2 h.2 v hv
theorem al7 {β : Type} {off : Nat} {new : List PV} : ∀ (i : Nat) (l : List Bx) (k : List Bx → Option β) (r : β),
  updB i l (fun y k => match y with | ⟨yb, yt, ycs⟩ => putC off new ycs fun cs => k ⟨yb, yt, cs⟩) k = some r →
  ∃ x cs, l[i]? = some x ∧ off + new.length ≤ x.cs.length ∧ cs = x.cs.take off ++ (new ++ x.cs.drop (off + new.length)) ∧ k (l.set i { x with cs := cs }) = some r
 | _, [], k, r, h => by simp [updB] at h
 | 0, x :: l, k, r, h => by
  simp only [updB] at h
  obtain ⟨h1, h2⟩ := Q0 off new x.cs _ r h
  exact ⟨x, _, by simp, h1, rfl, h2⟩
 | i + 1, x :: l, k, r, h => by
  simp only [updB] at h
  obtain ⟨y, cs, h1, h2, h3, h4⟩ := al7 i l _ r h
  exact ⟨y, cs, by simpa using h1, h2, h3, by simpa using h4⟩
theorem F9 {w w' : World} {b : Nat} {e : TypeId} {size n : Nat} {v : Value} {xs : List Value} (h : w.ownsRow b e size v n xs)
  (hk : ∀ g, v.ownBlock = some g → w'.heap[g]? = w.heap[g]?) : w'.ownsRow b e size v n xs := by
 refine ⟨h.1, ?_⟩
 rcases h.2 with h2 | ⟨g, cap, cur, rfl, h3, h4, h5⟩
 ·exact .inl h2
 ·exact .inr ⟨g, cap, cur, rfl, h3, by rw [hk g rfl]; exact h4, h5⟩
theorem D7 (w : World) (g : Nat) (cs : Array Value) {k : Nat} (h : k ≠ g) : (w.setRow g cs).heap[k]? = w.heap[k]? := by
 simp only [World.setRow, Array.getElem?_modify]
 rw [if_neg (by omega)]
theorem Below.setRow {B : Nat} {a w : World} (h : Below B a w) {g : Nat} (hg : B ≤ g) (cs : Array Value) : Below B a (w.setRow g cs) :=
 h.trans ⟨rfl, rfl, rfl, by simp [World.setRow], fun k hk => D7 w g cs (by omega)⟩
theorem HW.lt (hw : HW B w0 Ps σ w) {x : Bx} (hx : x ∈ σ.bx) : x.b < w.heap.size := (Array.getElem?_eq_some_iff.1 (hw.box x hx).2).1
theorem HW.setBox (hw : HW B w0 Ps σ w) {i : Nat} {x : Bx} (hx : σ.bx[i]? = some x) (cs : List PV) :
  HW B w0 Ps { σ with bx := σ.bx.set i { x with cs := cs } } (w.setRow x.b (cs.map PV.c).toArray) := by
 have hxm : x ∈ σ.bx := List.mem_of_getElem? hx
 have hi : i < σ.bx.length := (List.getElem?_eq_some_iff.1 hx).1
 have hbs : (σ.bx.set i { x with cs := cs }).map (·.b) = σ.bx.map (·.b) := by
  rw [List.map_set]
  apply List.ext_getElem?
  intro j
  rw [List.getElem?_set]
  split
  ·rename_i hij
   subst hij
   simp [hi, (List.getElem?_eq_some_iff.1 hx).2]
  ·rfl
 have hmem : ∀ y, y ∈ σ.bx.set i { x with cs := cs } → (y = { x with cs := cs }) ∨ (y ∈ σ.bx ∧ y.b ≠ x.b) := by
  intro y hy
  obtain ⟨j, hj⟩ := List.mem_iff_getElem?.1 hy
  rw [List.getElem?_set] at hj
  by_cases hij : i = j
  ·rw [if_pos hij, if_pos hi] at hj
   exact .inl (Option.some.inj hj).symm
  ·rw [if_neg hij] at hj
   refine .inr ⟨List.mem_of_getElem? hj, fun e => hij ?_⟩
   have hnd := hw.nodup
   have h1 : (σ.bx.map (·.b))[i]? = some x.b := by simp [hx]
   have h2 : (σ.bx.map (·.b))[j]? = some x.b := by simp [hj, e]
   exact (List.getElem?_inj (by simpa using hi) hnd).1 (h1.trans h2.symm)
 have hsz : (w.setRow x.b (cs.map PV.c).toArray).heap.size = w.heap.size := by simp [World.setRow]
 refine ⟨Below.setRow hw.below (hw.box x hxm).1 _, by rw [hsz]; exact hw.bsize, by simp only [hbs]; exact hw.nodup, fun y hy => ?_, fun p hp b hb => ?_, fun r hr => ?_, hw.apart, fun p hp => by rw [hsz]; exact hw.old p hp⟩
 ·rcases hmem y hy with rfl | ⟨hy, hne⟩
  ·exact ⟨(hw.box x hxm).1, setRow_heap w x.b _ _ _ _ (hw.box x hxm).2⟩
  ·exact ⟨(hw.box y hy).1, by rw [D7 w _ _ hne]; exact (hw.box y hy).2⟩
 ·obtain ⟨h1, h2⟩ := hw.past p hp b hb
  refine ⟨by rw [D7 w _ _ (fun e => h2 x hxm e.symm), hsz]; exact h1, fun y hy => ?_⟩
  rcases hmem y hy with rfl | ⟨hy, _⟩
  ·exact h2 x hxm
  ·exact h2 y hy
 ·obtain ⟨h1, h2⟩ := hw.row r hr
  refine ⟨F9 h1 fun g hg => D7 w _ _ (fun e => (h2 g hg).1 x hxm e.symm), fun g hg => ⟨fun y hy => ?_, (h2 g hg).2⟩⟩
  rcases hmem y hy with rfl | ⟨hy, _⟩
  ·exact (h2 g hg).1 x hxm
  ·exact (h2 g hg).1 y hy
theorem aC8 (hT : TOk P T) {sl : List (Nat × AV)} {bx : List Bx} {rw : List Rw} (ha : HA N ds ⟨sl, bx, rw⟩ a) (hw : HW B w0 Ps ⟨sl, bx, rw⟩ w) {o : Oper} {ob : List Prop} (h : storeV T sl bx rw o = some (σ', ob)) (hob : AllP ob) :
  ∃ w', (execOp a.eval o).run P w = .ok .skip w' ∧ o.dst = none ∧ HA N ds σ' a ∧ HW B w0 Ps σ' w' := by
 obtain ⟨dst, op, ty, pos, after, guard⟩ := o
 cases op <;> simp only [storeV, reduceCtorEq] at h
 rename_i t x y
 split at h
 ·split at h
  ·rename_i b i off ob1 h1
   split at h
   ·rename_i v ob2 h2
    split at h
    ·rename_i ti hl
     split at h
     ·rename_i x0 hbx
      cases hb : Nat.beq (cellsOf v).length ti.size with
      | false => simp [hb] at h
      | true =>
       rw [hb] at h
       simp only [cond_true] at h
       have hsz := Nat.eq_of_beq_eq_true hb
       obtain ⟨x', cs, g1, g2, g3, g4⟩ := al7 i bx _ _ h
       simp only [Option.some.injEq, Prod.mk.injEq] at g4
       obtain ⟨rfl, rfl⟩ := g4
       rw [E1, g1] at hbx
       have hbx' := Option.some.inj hbx
       subst hbx'
       obtain ⟨rfl, hone, hob2⟩ := hob
       obtain ⟨e2, hob1⟩ := q5 ha rfl h2 hob2
       obtain ⟨e1, _⟩ := q5 ha rfl h1 hob1
       obtain ⟨ii, d, z, hi, hu, hz, rfl⟩ := hT.row hl
       have hcs := R5 v
       have hxm : x' ∈ bx := List.mem_of_getElem? g1
       have hheap := (hw.box x' hxm).2
       have hlen : v.c.cells.toList.length = (cellsOf v).length := by rw [← hcs]; simp
       have hrun := run_storeCells_at (P := P) x'.b off x'.ty v.c.cells.toList 0 _ w hheap (by simp only [Nat.add_zero, hlen]; simpa using g2)
        (by rw [← hcs]; exact aa2 hone)
       refine ⟨w.setRow x'.b (cs.map PV.c).toArray, ?_, rfl, ha.same rfl, hw.setBox g1 cs⟩
       have hcc : (PV.p (bOf x') i off).c = .pointer (some ⟨x'.b, off, none⟩) := rfl
       have hs2 : v.c.cells.size = ii.size := by
        have := hlen
        simp only [Array.length_toList] at this
        rw [this]; exact hsz
       have hcsm : (cs.map PV.c).toArray = ((x'.cs.map PV.c).toArray.toList.take (off + 0) ++ v.c.cells.toList ++ (x'.cs.map PV.c).toArray.toList.drop (off + 0 + v.c.cells.toList.length)).toArray := by
        rw [g3, hlen, ← hcs]
        simp [List.map_take, List.map_drop]
       rw [hcsm]
       simp only [execOp, e1, e2, hcc, Instr.storeAt, Instr.sureAddr, storeVar, sizeOf, typeInfo, Sem.run_bind, Sem.run_pure, Result.andThen_ok, run_program, hi, hs2, ne_eq, not_true, if_false, hrun]
     ·cases h
    ·cases h
   ·cases h
  ·cases h
 ·cases h
end
def ndOp (o : Oper) : Bool := match o.op with | .defer _ => false | _ => true
def ndL : List Oper → Bool
 | [] => true
 | o :: r => ndOp o && ndL r
theorem T3 {l : List Oper} : ∀ {i : Nat} {o : Oper}, ndL l = true → l[i]? = some o → ndOp o = true := by
 induction l with
 | nil => intro i o _ hi; simp at hi
 | cons x r ih =>
  intro i o h hi
  have h' : (ndOp x && ndL r) = true := h
  rw [Bool.and_eq_true] at h'
  cases i with
  | zero => rw [List.getElem?_cons_zero] at hi; exact Option.some.inj hi ▸ h'.1
  | succ i => exact ih h'.2 (by rwa [List.getElem?_cons_succ] at hi)
theorem X5 : ∀ (n : Nat) (l : List Oper), ndL l = true → ndL (l.drop n) = true
 | 0, l, h => by simpa using h
 | n + 1, [], _ => rfl
 | n + 1, x :: l, h => by
  have h' : (ndOp x && ndL l) = true := h
  rw [Bool.and_eq_true] at h'
  simpa using X5 n l h'.2
abbrev FR (ro : Option Nat) : Fence := { Fence.wide with round := ro }
theorem roomR (ro : Option Nat) (n : Nat) : (FR ro).room n := fun _ h => by cases h
section conv
variable {P : Program} {ro : Option Nat} {n m : Nat} {Q : Exit → Act → World → Prop} {K : Act → World → Prop} {a : Act} {w : World} {o : Oper}
theorem callsR {f : FuncId} {args : Array Value} {R : Ending → World → Prop} (h : Calls P f args w R) : CallsIn (FR ro) n P f args w R := by
 have := callsIn_wide (n := n).2 h
 exact this
theorem callsR' {f : FuncId} {args : Array Value} {R : Ending → World → Prop} (h : CallsIn (FR ro) n P f args w R) : Calls P f args w R := by
 have : CallsIn Fence.wide n P f args w R := h
 exact callsIn_wide.1 this
theorem rowsR {row : String} {args : Array Value} {R : Value → World → Prop} (h : Rows P row args w R) : RowsIn (FR ro) n P row args w R := fun c cs _ =>
 let ⟨v, w', r, s⟩ := h c cs
 ⟨v, w', r, stepsIn_wide.2 s⟩
theorem bk6 {c : Code} (h : c.wpIn (FR ro) n P Q a w) : c.wpIn (FR ro) m P Q a w := fun b k cs h1 h2 _ => h b k cs h1 h2 (roomR ro _)
theorem opIn (hnd : ndOp o = true) (h : o.wp P a w K Q) : o.wpIn (FR ro) n P a w K Q := by
 refine ⟨fun _ _ => trivial, ?_⟩
 rw [Oper.semAt_eq _ _ _ (fun c hc => by simp [ndOp, hc] at hnd)]
 unfold Oper.wp at h
 generalize (execOp a.eval o).run P w = r at h ⊢
 cases r with
 | ok x w' =>
  cases x <;> simp only [Oper.upon, Oper.uponIn] at h ⊢ <;>
   first
    | exact h
    | exact ⟨fun hd => (by cases hd), callsR h⟩
    | exact ⟨fun hd => (by cases hd), rowsR h⟩
 | halt x w' => cases x <;> simp only [Oper.upon, Oper.uponIn] at h ⊢ <;> exact h
def wpl (ro : Option Nat) (P : Program) (ops : Array Oper) (Q : Exit → Act → World → Prop) (l : List Oper) (a : Act) (w : World) : Prop := ndL l = true → wpListIn (FR ro) 9 P ops Q l a w
variable {ops : Array Oper} {rest : List Oper}
theorem bf2 (h : Q .normal a w) : wpl ro P ops Q [] a w := fun _ => h
theorem v7 (h : ∀ K : Act → World → Prop, (∀ a w, wpl ro P ops Q rest a w → K a w) → if Region.wanted o (yielded ops a.tmps) then o.wp P a w K Q else K (a.put o.dst undef) w) : wpl ro P ops Q (o :: rest) a w := by
 intro hnd
 have hnd' : (ndOp o && ndL rest) = true := hnd
 rw [Bool.and_eq_true] at hnd'
 have hk := h (fun a w => wpListIn (FR ro) 9 P ops Q rest a w) (fun a w h => h hnd'.2)
 unfold wpListIn
 split
 ·rename_i hw
  rw [if_pos hw] at hk
  exact opIn hnd'.1 hk
 ·rename_i hw
  rw [if_neg hw] at hk
  exact ⟨fun _ _ => trivial, hk⟩
theorem aB4 (h : ∀ K : Act → World → Prop, (∀ a w, wpl ro P ops Q rest a w → K a w) → if Region.wanted o (yielded ops a.tmps) then o.wpIn (FR ro) 9 P a w K Q else K (a.put o.dst undef) w) : wpl ro P ops Q (o :: rest) a w := by
 intro hnd
 have hnd' : (ndOp o && ndL rest) = true := hnd
 rw [Bool.and_eq_true] at hnd'
 have hk := h (fun a w => wpListIn (FR ro) 9 P ops Q rest a w) (fun a w h => h hnd'.2)
 unfold wpListIn
 split
 ·rename_i hw
  rwa [if_pos hw] at hk
 ·rename_i hw
  rw [if_neg hw] at hk
  exact ⟨fun _ _ => trivial, hk⟩
theorem regR {id : Nat} {l : List Oper} (hnd : ndL l = true) (h : wpl ro P l.toArray Q l a w) : (Code.region id l.toArray false).wpIn (FR ro) 9 P Q a w := wpIn_region_lit (h hnd)
abbrev wpA (ro : Option Nat) (P : Program) (ops : Array Oper) (Q : Exit → Act → World → Prop) : Nat → Array Bool → Act → World → Prop := wpAnyIn (FR ro) 9 P .any ops Q
theorem regAR {id : Nat} {l : List Oper} (hm : P.follows .mixedOrders = true) (h : wpA ro P l.toArray Q l.toArray.size (Array.replicate l.toArray.size false) a { w with drawn := w.drawn + 1 }) :
  (Code.region id l.toArray true).wpIn (FR ro) 9 P Q a w := wpIn_region_any hm h
theorem opA {i : Nat} (ho : ops[i]? = some o) (hnd : ndOp o = true) (h : if Region.wanted o (yielded ops a.tmps) then o.wp P a w K Q else K (a.put o.dst undef) w) : wpOpIn (FR ro) 9 P ops Q i K a w := by
 unfold wpOpIn
 simp only [ho]
 split
 ·rename_i hw
  rw [if_pos hw] at h
  exact opIn hnd h
 ·rename_i hw
  rw [if_neg hw] at h
  exact ⟨fun _ _ => trivial, h⟩
variable {C : World → Prop}
theorem av0 {i : Nat} {K : Act → Prop} {K' : Act → World → Prop} (hnd : ∀ (i : Nat) (o : Oper), ops[i]? = some o → ndOp o = true) (hC : C w) (h : ∀ a w', C w' → K a → K' a w') (hh : qOp P ops C i K a) : wpOpIn (FR ro) 9 P ops Q i K' a w := by
 cases ho : ops[i]? with
 | none =>
  unfold qOp at hh
  unfold wpOpIn
  simp only [ho] at hh ⊢
  exact h _ _ hC hh
 | some o =>
  unfold qOp at hh
  simp only [ho] at hh
  refine opA ho (hnd i o ho) ?_
  split
  ·rename_i hw
   rw [if_pos hw] at hh
   exact Oper.wp_of_quiet hC h hh
  ·rename_i hw
   rw [if_neg hw] at hh
   exact h _ _ hC hh
theorem R9 {Lq : Act → Prop} (hnd : ∀ (i : Nat) (o : Oper), ops[i]? = some o → ndOp o = true) (hQ : ∀ a w, C w → Lq a → Q .normal a w) : ∀ (fuel : Nat) (listed : Array Bool) (a : Act) (w : World), C w →
  wpAnyQ P .any ops C Lq fuel listed a → wpA ro P ops Q fuel listed a w
 | 0, _, _, _, hw, h => ⟨h.1, hQ _ _ hw h.2⟩
 | fuel + 1, _, _, _, hw, h => ⟨fun h0 => hQ _ _ hw (h.1 h0), fun i hi => av0 hnd hw (fun a' w' hw' => R9 hnd hQ fuel _ a' w' hw') (h.2 i hi)⟩
theorem I0 : ∀ (l : List Oper) (k : Nat) (listed : Array Bool) (a : Act) (w : World), (∀ j, l[j]? = ops[k + j]?) →
  Region.seqB .any ops l.length k listed = true → wpListIn (FR ro) 9 P ops Q l a w → wpA ro P ops Q l.length listed a w
 | [], _, _, _, _, _, hB, h => ⟨by simpa [Region.seqB] using hB, h⟩
 | o :: l, k, listed, a, w, hl, hB, h => by
  have h0 : ops[k]? = some o := by simpa using (hl 0).symm
  simp only [List.length_cons, Region.seqB, Bool.and_eq_true, decide_eq_true_eq] at hB
  refine ⟨fun h1 => (by rw [hB.1] at h1; cases h1), fun i hi => ?_⟩
  rw [hB.1] at hi
  have hik : i = k := by simpa using hi
  subst hik
  have hw : wpOpIn (FR ro) 9 P ops Q i (wpListIn (FR ro) 9 P ops Q l) a w := by unfold wpOpIn; simp only [h0]; exact h
  exact wpOpIn_mono (fun a' w' h' => I0 l (i + 1) _ a' w' (fun j => by have := hl (j + 1); simpa [Nat.add_assoc, Nat.add_comm 1 j] using this) hB.2 h') hw
theorem aL6 {l : List Oper} (hnd : ndL l = true) (hB : Region.lexB .any l.toArray = true) (hC : C { w with drawn := w.drawn + 1 })
  (h : wpQuiet P l.toArray C (fun a' => ∀ w', C w' → Q .normal a' w') l a) : wpA ro P l.toArray Q l.toArray.size (Array.replicate l.toArray.size false) a { w with drawn := w.drawn + 1 } := by
 simp only [Region.lexB, Bool.and_eq_true] at hB
 refine R9 (Lq := fun a' => ∀ w', C w' → Q .normal a' w') (fun i o ho => T3 hnd (by simpa using ho)) (fun _ w' hw' h => h w' hw') _ _ _ _ hC ?_
 have := wpAnyQ_lex (C := C) (md := .any) hB.1 l.toArray.toList 0 (Array.replicate l.toArray.size false) a (by simp) (by simpa using hB.2) (by simpa using h)
 simpa using this
end conv
structure Cx where
 P : Program
 T : TT
 hT : TOk P T
 N : Nat
 B : Nat
 w0 : World
 ds : List Nat
 ro : Option Nat
def G (X : Cx) (Ps : Past) (Q : Exit → Act → World → Prop) (e : Exit) (σ : St) : Prop := ∀ a w, HA X.N X.ds σ a → HW X.B X.w0 Ps σ w → Q e a w
def C (X : Cx) (Ps : Past) (Q : Exit → Act → World → Prop) (c : Code) (σ : St) : Prop := ∀ a w, HA X.N X.ds σ a → HW X.B X.w0 Ps σ w → c.wpIn (FR X.ro) 9 X.P Q a w
def S (X : Cx) (Ps : Past) (l0 : List Oper) (Q : Exit → Act → World → Prop) (l : List Oper) (σ : St) : Prop :=
 ∀ a w, HA X.N X.ds σ a → HW X.B X.w0 Ps σ w → wpl X.ro X.P l0.toArray Q l a w
section
variable {X : Cx} {T : TT} {Ps : Past} {σ σ' : St} {l0 l rest : List Oper} {Q : Exit → Act → World → Prop} {o : Oper}
theorem M8 (hT : TOk X.P T) {ob : List Prop} (h : step T X.N l0 o σ = some (σ', ob)) (hob : AllP ob) (k : S X Ps l0 Q rest σ') : S X Ps l0 Q (o :: rest) σ := by
 intro a w ha hw
 obtain ⟨sl, bx, rw'⟩ := σ
 simp only [step] at h
 split at h
 ·cases h
 ·rename_i ctx hctx
  have hwant := N7 ha hctx
  refine v7 fun K hK => ?_
  rw [hwant]
  split at h
  ·split at h
   ·obtain ⟨w', h1, h2, h3, h4⟩ := aC8 hT ha hw h hob
    rw [if_pos (show gOk [] = true from rfl)]
    unfold Oper.wp
    rw [h1, Oper.upon_skip, h2]
    exact hK _ _ (k a w' h3 h4)
   ·cases h
  ·split at h
   ·rename_i r ob1 hop
    split at h
    ·rename_i d hd
     split at h
     ·rename_i hlt
      have hd' : d < X.N := by simpa using hlt
      split at h
      ·simp only [Option.some.injEq, Prod.mk.injEq] at h
       obtain ⟨rfl, rfl⟩ := h
       rw [if_pos (show gOk [] = true from rfl)]
       unfold Oper.wp
       rw [M7 hT ha hw rfl hop hob, Oper.upon_value, hd]
       exact hK _ _ (k _ w (ha.put hd' (.s r) rfl) (hw.same rfl rfl))
      ·rename_i c gs
       simp only [Option.some.injEq, Prod.mk.injEq] at h
       obtain ⟨rfl, rfl⟩ := h
       cases hg : gOk (c :: gs) with
       | true =>
        rw [if_pos rfl]
        unfold Oper.wp
        rw [M7 hT ha hw hg hop (an1 hob hg), Oper.upon_value, hd]
        have := ha.put hd' (.g (c :: gs) r) (σ' := ⟨(d, .g (c :: gs) r) :: sl, bx, rw'⟩) rfl
        simp only [AV.c, hg, if_true] at this
        exact hK _ _ (k _ w this (hw.same rfl rfl))
       | false =>
        rw [if_neg (by simp), hd]
        have := ha.put hd' (.g (c :: gs) r) (σ' := ⟨(d, .g (c :: gs) r) :: sl, bx, rw'⟩) rfl
        simp only [AV.c, hg, Bool.false_eq_true, if_false] at this
        exact hK _ _ (k _ w this (hw.same rfl rfl))
     ·cases h
    ·cases h
   ·cases h
theorem az0 (hT : TOk X.P T) : ∀ (l : List Oper) (σ : St) (ob0 : List Prop) {ob : List Prop}, run T X.N l0 l σ ob0 = (rest, σ', ob) → AllP ob → AllP ob0 ∧ (S X Ps l0 Q rest σ' → S X Ps l0 Q l σ)
 | [], σ, ob0, ob, h, hob => by
  simp only [run, Prod.mk.injEq] at h
  obtain ⟨rfl, rfl, rfl⟩ := h
  exact ⟨hob, fun k => k⟩
 | o :: l, σ, ob0, ob, h, hob => by
  simp only [run] at h
  split at h
  ·rename_i σ1 ob1 hs
   split at h
   ·obtain ⟨h1, h2⟩ := az0 hT l σ1 ob0 h hob
    exact ⟨h1, fun k => M8 hT hs trivial (h2 k)⟩
   ·obtain ⟨h1, h2⟩ := az0 hT l σ1 _ h hob
    exact ⟨h1.2, fun k => M8 hT hs h1.1 (h2 k)⟩
  ·simp only [Prod.mk.injEq] at h
   obtain ⟨rfl, rfl, rfl⟩ := h
   exact ⟨hob, fun k => k⟩
theorem e9 {σ1 : St} {ob1 ob : List Prop} (h1 : step X.T X.N l0 o σ = some (σ1, ob1)) (h : run X.T X.N l0 l σ1 [] = (rest, σ', ob)) (hob1 : AllP ob1) (hob : AllP ob)
  (k : S X Ps l0 Q rest σ') : S X Ps l0 Q (o :: l) σ :=
 M8 X.hT h1 hob1 ((az0 X.hT l σ1 [] h hob).2 k)
theorem e7 (k : G X Ps Q .normal σ) : S X Ps l0 Q [] σ := fun a w ha hw => bf2 (k a w ha hw)
def snocB {β : Type} : List Bx → Bx → (List Bx → Option β) → Option β
 | [], y, k => k [y]
 | x :: r, y, k => snocB r y fun l => k (x :: l)
theorem M1 {β : Type} : ∀ (l : List Bx) (y : Bx) (k : List Bx → Option β) (r : β), snocB l y k = some r → k (l ++ [y]) = some r
 | [], y, k, r, h => h
 | x :: l, y, k, r, h => by
  simp only [snocB] at h
  exact M1 l y _ r h
def lenC {β : Type} : List Bx → Nat → (Nat → Option β) → Option β
 | [], n, k => k n
 | _ :: r, n, k => lenC r (Nat.succ n) k
theorem Z8 {β : Type} : ∀ (l : List Bx) (n : Nat) (k : Nat → Option β) (r : β), lenC l n k = some r → k (l.length + n) = some r
 | [], n, k, r, h => by simpa [lenC] using h
 | _ :: l, n, k, r, h => by
  have := Z8 l (n + 1) k r h
  rw [List.length_cons, show l.length + 1 + n = l.length + (n + 1) by omega]
  exact this
def zeroC {β : Type} : List Value → (List PV → Option β) → Option β
 | [], k => k []
 | x :: r, k => zeroC r fun l => k (.v x :: l)
theorem ah4 {β : Type} : ∀ (l : List Value) (k : List PV → Option β) (r : β), zeroC l k = some r → k (l.map .v) = some r
 | [], k, r, h => h
 | x :: l, k, r, h => by
  simp only [zeroC] at h
  exact ah4 l _ r h
def forceC {α β : Type} : List α → (List α → Option β) → Option β
 | [], k => k []
 | x :: r, k => forceC r fun l => k (x :: l)
theorem O8 {α β : Type} : ∀ (l : List α) (k : List α → Option β) (r : β), forceC l k = some r → k l = some r
 | [], k, r, h => h
 | x :: l, k, r, h => by
  simp only [forceC] at h
  exact O8 l _ r h
def boxV (T : TT) (N : Nat) (o : Oper) (b : Nat) : St → Option (St × List Prop)
 | ⟨sl, bx, rw⟩ => match o.guard with
 | some _ => none
 | none => match o.dst with
  | none => none
  | some d => match Nat.blt d N with
   | false => none
   | true => match o.op with
    | .alloc t => match look T t with
     | some ti => zeroC ti.zero fun zs => lenC bx 0 fun n => snocB bx ⟨b, t, zs⟩ fun bs => some (⟨(d, .s (.p b n 0)) :: sl, bs, rw⟩, [])
     | none => none
    | .box t x => match evp ⟨sl, bx, rw⟩ [] x [] with
     | some (v, ob) => forceC (cellsOf v) fun zs => lenC bx 0 fun n => snocB bx ⟨b, t, zs⟩ fun bs => some (⟨(d, .s (.p b n 0)) :: sl, bs, rw⟩, ob)
     | none => none
    | _ => none
theorem p8 {w : World} {base : Nat} {e : TypeId} {size n : Nat} {v : Value} {xs : List Value} (h : w.ownsRow base e size v n xs) {g : Nat} (hg : v.ownBlock = some g) : g < w.heap.size ∧ base ≤ g := by
 rcases h.2 with ⟨rfl, _⟩ | ⟨g', cap, cur, rfl, h3, h4, _⟩
 ·simp [Value.ownBlock] at hg
 ·have : g' = g := by simpa [Value.ownBlock] using hg
  subst this
  exact ⟨(Array.getElem?_eq_some_iff.1 h4).1, h3⟩
theorem HW.alloc {B : Nat} {w0 w : World} (hw : HW B w0 Ps σ w) {t : TypeId} {cs : List PV} {cv : Array Value} (hcv : cv = (cs.map PV.c).toArray)
  (hbx : σ'.bx = σ.bx ++ [⟨w.heap.size, t, cs⟩]) (hrw : σ'.rw = σ.rw) : HW B w0 Ps σ' (w.alloc (.cells cv t)) := by
 subst hcv
 have hB := hw.bsize
 have hlt : ∀ x ∈ σ.bx, x.b < w.heap.size := fun x hx => hw.lt hx
 refine ⟨hw.below.alloc hB _, by simp; omega, ?_, fun x hx => ?_, fun p hp b hb => ?_, fun r hr => ?_, by rw [hrw]; exact hw.apart, fun p hp => by have := hw.old p hp; simp; omega⟩
 ·rw [hbx, List.map_append, List.nodup_append]
  refine ⟨hw.nodup, by simp, fun b hb c hc => ?_⟩
  obtain ⟨x, hx, rfl⟩ := List.mem_map.1 hb
  simp only [List.map_cons, List.map_nil, List.mem_singleton] at hc
  subst hc
  exact Nat.ne_of_lt (hlt x hx)
 ·rw [hbx, List.mem_append, List.mem_singleton] at hx
  rcases hx with hx | rfl
  ·exact ⟨(hw.box x hx).1, (Below.heap_alloc w _ _ (hlt x hx)).trans (hw.box x hx).2⟩
  ·exact ⟨hB, heap_alloc_new w _⟩
 ·obtain ⟨h1, h2⟩ := hw.past p hp b hb
  have hbl := h1.1
  refine ⟨⟨by simp; omega, (Below.heap_alloc w _ _ hbl).trans h1.2⟩, fun x hx => ?_⟩
  rw [hbx, List.mem_append, List.mem_singleton] at hx
  rcases hx with hx | rfl
  ·exact h2 x hx
  ·exact (Nat.ne_of_lt hbl).symm
 ·rw [hrw] at hr
  obtain ⟨h1, h2⟩ := hw.row r hr
  refine ⟨F9 h1 fun g hg => Below.heap_alloc w _ _ (p8 h1 hg).1, fun g hg => ⟨fun x hx => ?_, (h2 g hg).2⟩⟩
  rw [hbx, List.mem_append, List.mem_singleton] at hx
  rcases hx with hx | rfl
  ·exact (h2 g hg).1 x hx
  ·exact (Nat.ne_of_lt (p8 h1 hg).1).symm
end
section
variable {X : Cx} {T : TT} {Ps : Past} {σ σ' : St} {l0 l rest : List Oper} {Q : Exit → Act → World → Prop} {o : Oper}
def bodyM (P : Program) (fn : Func) (R : Ending → World → Prop) : Exit → Act → World → Prop := bodyPostM (FR none) 9 P fn R
theorem o7 {l0 : List Oper} {a : Act} (h : o.guard = none) : Region.wanted o (yielded l0.toArray a.tmps) = true := by
 simp [Region.wanted, h]
theorem k7 (h : ∀ b, ∃ σ' ob, boxV X.T X.N o b σ = some (σ', ob) ∧ AllP ob ∧ S X Ps l0 Q rest σ') : S X Ps l0 Q (o :: rest) σ := by
 intro a w ha hw
 obtain ⟨σ', ob, h1, hob, k⟩ := h w.heap.size
 obtain ⟨sl, bx, rw'⟩ := σ
 simp only [boxV] at h1
 split at h1
 ·cases h1
 ·rename_i hg
  split at h1
  ·cases h1
  ·rename_i d hd
   split at h1
   ·cases h1
   ·rename_i hlt
    have hd' : d < X.N := by simpa using hlt
    refine v7 fun K hK => ?_
    rw [o7 hg, if_pos rfl]
    unfold Oper.wp
    split at h1
    ·rename_i t hop
     split at h1
     ·rename_i ti hl
      obtain ⟨i, dd, z, hi, hu, hz, rfl⟩ := X.hT.row hl
      have h2 := M1 _ _ _ _ (Z8 _ _ _ _ (ah4 _ _ _ h1))
      simp only [Option.some.injEq, Prod.mk.injEq] at h2
      obtain ⟨rfl, rfl⟩ := h2
      have hr : (execOp a.eval o).run X.P w = .ok (.value (.pointer (some ⟨w.heap.size, 0, none⟩))) (w.alloc (.cells z.cells t)) := by
       simp only [execOp, hop]
       simp [Instr.alloc, zeroValue, typeInfo, hi, hz, newVar, newRow]
      rw [hr, Oper.upon_value, hd]
      refine hK _ _ (k _ _ (ha.put hd' (.s (.p w.heap.size (bx.length + 0) 0)) rfl) (hw.alloc (cs := z.cells.toList.map .v) ?_ rfl rfl))
      rw [List.map_map]
      apply Array.toList_inj.1
      exact (List.map_id' _).symm
     ·cases h1
    ·rename_i t x hop
     split at h1
     ·rename_i v ob1 hv
      have h2 := M1 _ _ _ _ (Z8 _ _ _ _ (O8 _ _ _ h1))
      simp only [Option.some.injEq, Prod.mk.injEq] at h2
      obtain ⟨rfl, rfl⟩ := h2
      obtain ⟨h3, _⟩ := q5 ha rfl hv hob
      have hr : (execOp a.eval o).run X.P w = .ok (.value (.pointer (some ⟨w.heap.size, 0, none⟩))) (w.alloc (.cells v.c.cells t)) := by
       simp only [execOp, hop]
       simp [Instr.box, h3, newVar, newRow]
      rw [hr, Oper.upon_value, hd]
      refine hK _ _ (k _ _ (ha.put hd' (.s (.p w.heap.size (bx.length + 0) 0)) rfl) (hw.alloc (cs := cellsOf v) ?_ rfl rfl))
      rw [R5]
     ·cases h1
    ·cases h1
def entB (P : Program) (f : FuncId) : Bool :=
 match P.funcs[f]? with
 | some fn => !(fn.name == "runtime.NumGoroutine") && fn.body.isSome
 | none => false
theorem Y0 {P : Program} {f : FuncId} (h : entB P f = true) (args : Array Value) (w : World) : (callFunc f args).run P w = .ok (.enter f args) w := by
 unfold entB at h
 cases hf : P.funcs[f]? with
 | none => simp [hf] at h
 | some fn =>
  simp only [hf, Bool.and_eq_true, Bool.not_eq_true'] at h
  have h1 : ¬ fn.name = "runtime.NumGoroutine" := by simpa using h.1
  cases hb : fn.body with
  | none => simp [hb] at h
  | some c => simp [callFunc, hf, h1, hb]
def appC {α β : Type} : List α → List α → (List α → Option β) → Option β
 | [], l, k => k l
 | x :: r, l, k => appC r l fun l => k (x :: l)
theorem K4 {α β : Type} : ∀ (r l : List α) (k : List α → Option β) (z : β), appC r l k = some z → k (r ++ l) = some z
 | [], l, k, z, h => h
 | x :: r, l, k, z, h => by
  simp only [appC] at h
  exact K4 r l _ z h
def opsC {α : Type} : List α → List (Nat × α)
 | [] => []
 | x :: r => (0, x) :: opsC r
theorem ad4 {α : Type} : ∀ l : List α, opsC l = l.map fun x => (0, x)
 | [] => rfl
 | x :: r => by simp [opsC, ad4 r]
def callV (N : Nat) (o : Oper) (σ : St) : Option (FuncId × List Value × Nat × List Prop) :=
 match o.guard with
 | some _ => none
 | none => match o.dst with
  | none => none
  | some d => match Nat.blt d N with
   | false => none
   | true => match o.op with
    | .call c => match c.callee with
     | .value fo => match evp σ [] fo [] with
      | some (.v (.func (.func f) first cap), ob) => partsV σ [] (opsC c.args.toList) ob fun l ob => valC l fun vs =>
        appC vs cap.toList fun vs => appC first.toList vs fun vs => some (f, vs, d, ob)
      | _ => none
     | _ => none
    | _ => none
theorem F0 {N : Nat} {ds : List Nat} {w : World} {P : Program} {a : Act} (ha : HA N ds σ a) {f : FuncId} {args : List Value} {d : Nat} {ob : List Prop} (h : callV N o σ = some (f, args, d, ob)) (hob : AllP ob) (he : entB P f = true) :
  o.guard = none ∧ o.dst = some d ∧ d < N ∧ (execOp a.eval o).run P w = .ok (.enter f args.toArray) w := by
 unfold callV at h
 split at h
 ·cases h
 ·rename_i hg
  split at h
  ·cases h
  ·rename_i d hd
   split at h
   ·cases h
   ·rename_i hlt
    split at h
    ·rename_i c hop
     split at h
     ·rename_i fo hcal
      split at h
      ·rename_i f first cap ob1 hf
       obtain ⟨l', ob', hk, hp⟩ := E0 ha (ctx := []) rfl _ _ _ _ h
       have h2 := K4 _ _ _ _ (K4 _ _ _ _ (H2 _ _ _ hk))
       simp only [Option.some.injEq, Prod.mk.injEq] at h2
       obtain ⟨rfl, rfl, rfl, rfl⟩ := h2
       obtain ⟨h3, h4⟩ := hp hob
       obtain ⟨h5, _⟩ := q5 ha rfl hf h4
       refine ⟨hg, hd, by simpa using hlt, ?_⟩
       have e1 : c.args.map a.eval = (l'.map fun x => x.2.c).toArray := by
        apply Array.toList_inj.1
        rw [ad4] at h3
        have := congrArg (List.map Prod.snd) h3
        simpa [List.map_map, Function.comp_def] using this
       have hcc : (PV.v (Value.func (.func f) first cap)).c = .func (.func f) first cap := rfl
       obtain ⟨callee, args, argTypes⟩ := c
       simp only at hcal e1
       subst hcal
       have e2 : (first ++ (l'.map fun x => x.2.c).toArray ++ cap) = (first.toList ++ (l'.map (fun x => x.2.c) ++ cap.toList)).toArray := by
        apply Array.toList_inj.1
        simp
       simp only [execOp, hop, resolve, h5, hcc, e1, Deferred.ofValue, invoke, Sem.run_bind, Sem.run_pure, Result.andThen_ok, e2]
       exact Y0 he _ w
      ·cases h
     ·cases h
    ·cases h
theorem HW.ext {B : Nat} {w0 w w' : World} (hw : HW B w0 Ps σ w) (hb : Below w.heap.size w w') : HW B w0 Ps σ w' := by
 have hs := hb.size
 refine ⟨hw.below.trans (hb.mono hw.bsize), by have := hw.bsize; omega, hw.nodup, fun x hx => ⟨(hw.box x hx).1, (hb.block _ (hw.lt hx)).trans (hw.box x hx).2⟩, fun p hp b h => ?_, fun r hr => ?_, hw.apart, fun p hp => by have := hw.old p hp; omega⟩
 ·obtain ⟨⟨h1, h2⟩, h3⟩ := hw.past p hp b h
  exact ⟨⟨by omega, (hb.block b h1).trans h2⟩, h3⟩
 ·obtain ⟨h1, h2⟩ := hw.row r hr
  exact ⟨F9 h1 fun g hg => hb.block g (p8 h1 hg).1, h2⟩
theorem a8 {f : FuncId} {args : List Value} {d : Nat} {ob : List Prop} {V : Value} {sl : List (Nat × AV)} {bx : List Bx} {rw : List Rw} (h : callV X.N o ⟨sl, bx, rw⟩ = some (f, args, d, ob)) (hob : AllP ob) (he : entB X.P f = true)
  (hc : ∀ w, HW X.B X.w0 Ps ⟨sl, bx, rw⟩ w → Calls X.P f args.toArray w fun e w' => e = .returned V ∧ Below w.heap.size w w')
  (k : S X Ps l0 Q rest ⟨(d, .s (.v V)) :: sl, bx, rw⟩) : S X Ps l0 Q (o :: rest) ⟨sl, bx, rw⟩ := by
 intro a w ha hw
 obtain ⟨hg, hd, hlt, hr⟩ := F0 (w := w) (P := X.P) ha h hob he
 refine v7 fun K hK => ?_
 rw [o7 hg, if_pos rfl]
 unfold Oper.wp
 rw [hr, Oper.upon_enter]
 refine (hc w hw).mono ?_
 rintro e w' ⟨rfl, hb⟩
 rw [hd]
 exact hK _ _ (k _ w' (ha.put hlt (.s (.v V)) rfl) ((hw.same (σ' := ⟨(d, .s (.v V)) :: sl, bx, rw⟩) rfl rfl).ext hb))
theorem j5 {f : FuncId} {args : List Value} {d : Nat} {ob : List Prop} {R : World → Value → World → Prop} {sl : List (Nat × AV)} {bx : List Bx} {rw : List Rw} (h : callV X.N o ⟨sl, bx, rw⟩ = some (f, args, d, ob)) (hob : AllP ob) (he : entB X.P f = true)
  (hc : ∀ w, HW X.B X.w0 Ps ⟨sl, bx, rw⟩ w → Calls X.P f args.toArray w fun e w' => ∃ v, e = .returned v ∧ Below w.heap.size w w' ∧ R w v w')
  (k : ∀ w1 w2 v, HW X.B X.w0 Ps ⟨sl, bx, rw⟩ w1 → Below w1.heap.size w1 w2 → R w1 v w2 → S X ((w2, fun b => w1.heap.size ≤ b ∧ b < w2.heap.size) :: Ps) l0 Q rest ⟨(d, .s (.v v)) :: sl, bx, rw⟩) :
  S X Ps l0 Q (o :: rest) ⟨sl, bx, rw⟩ := by
 intro a w ha hw
 obtain ⟨hg, hd, hlt, hr⟩ := F0 (w := w) (P := X.P) ha h hob he
 refine v7 fun K hK => ?_
 rw [o7 hg, if_pos rfl]
 unfold Oper.wp
 rw [hr, Oper.upon_enter]
 refine (hc w hw).mono ?_
 rintro e w' ⟨v, rfl, hb, hR⟩
 rw [hd]
 have h1 := (hw.same (σ' := ⟨(d, .s (.v v)) :: sl, bx, rw⟩) rfl rfl).ext hb
 refine hK _ _ (k w w' v hw hb hR _ w' (ha.put hlt (.s (.v v)) rfl) ⟨h1.below, h1.bsize, h1.nodup, h1.box, fun p hp b hpb => ?_, fun r hr => ?_, h1.apart, fun p hp => ?_⟩)
 ·rw [List.mem_cons] at hp
  rcases hp with rfl | hp
  ·exact ⟨⟨hpb.2, rfl⟩, fun x hx e => by have := hw.lt (x := x) hx; have := hpb.1; omega⟩
  ·exact h1.past p hp b hpb
 ·obtain ⟨g1, g2⟩ := h1.row r hr
  refine ⟨g1, fun g hg => ⟨(g2 g hg).1, fun p hp => ?_⟩⟩
  rw [List.mem_cons] at hp
  rcases hp with rfl | hp
  ·intro hpb
   have := (p8 (hw.row r hr).1 hg).1
   have := hpb.1
   omega
  ·exact (g2 g hg).2 p hp
 ·rw [List.mem_cons] at hp
  rcases hp with rfl | hp
  ·exact Nat.le_refl _
  ·exact h1.old p hp
theorem e8 {x y : Code} (h : C X Ps (Exit.then (fun a w => y.wpIn (FR X.ro) 9 X.P Q a w) Q) x σ) : C X Ps Q (.seq x y) σ := fun a w ha hw => wpIn_seq (h a w ha hw)
theorem j3 (h : G X Ps Q .normal σ) : C X Ps Q .skip σ := fun a w ha hw => wpIn_skip (h a w ha hw)
theorem o0 {id : Nat} (h : G X Ps Q (.exit id) σ) : C X Ps Q (.exit id) σ := fun a w ha hw => wpIn_exit (h a w ha hw)
theorem i6 (h : G X Ps Q .ret σ) : C X Ps Q .ret σ := fun a w ha hw => wpIn_ret (h a w ha hw)
theorem j1 {id : Nat} {c : Code} (h : C X Ps (Exit.inBlock id Q) c σ) : C X Ps Q (.block id c) σ := fun a w ha hw => wpIn_block (h a w ha hw)
theorem a6 {id : Nat} (hn : ndL l = true) (h : S X Ps l Q l σ) : C X Ps Q (.region id l.toArray false) σ := fun a w ha hw => regR hn (h a w ha hw)
theorem j0 {c : Operand} {x y : Code} {b : Bool} {ob : List Prop} (he : evp σ [] c [] = some (.v (.bool b), ob)) (hob : AllP ob) (h1 : b = true → C X Ps Q x σ) (h2 : b = false → C X Ps Q y σ) :
  C X Ps Q (.cond c x y) σ := fun a w ha hw =>
 wpIn_cond_split (q5 ha rfl he hob).1 (fun h => h1 h a w ha hw) (fun h => h2 h a w ha hw)
theorem o5 {c : Operand} {x y : Code} {ob : List Prop} (he : evp σ [] c [] = some (.v (.bool true), ob)) (hob : AllP ob) (h1 : C X Ps Q x σ) : C X Ps Q (.cond c x y) σ :=
 j0 he hob (fun _ => h1) (fun h => by cases h)
theorem n7 {c : Operand} {x y : Code} {ob : List Prop} (he : evp σ [] c [] = some (.v (.bool false), ob)) (hob : AllP ob) (h1 : C X Ps Q y σ) : C X Ps Q (.cond c x y) σ :=
 j0 he hob (fun h => by cases h) (fun _ => h1)
theorem a7 {y : Code} (h : C X Ps Q y σ) : G X Ps (Exit.then (fun a w => y.wpIn (FR X.ro) 9 X.P Q a w) Q) .normal σ := h
theorem n6 {n : Act → World → Prop} {id : Nat} (h : G X Ps Q (.exit id) σ) : G X Ps (Exit.then n Q) (.exit id) σ := h
theorem j6 {n : Act → World → Prop} (h : G X Ps Q .ret σ) : G X Ps (Exit.then n Q) .ret σ := h
theorem n5 {id : Nat} (h : G X Ps Q .normal σ) : G X Ps (Exit.inBlock id Q) .normal σ := h
theorem r8 {id : Nat} (h : G X Ps Q .ret σ) : G X Ps (Exit.inBlock id Q) .ret σ := h
theorem n2 {id : Nat} (h : G X Ps Q .normal σ) : G X Ps (Exit.inBlock id Q) (.exit id) σ := fun a w ha hw => by
 simp only [Exit.inBlock, if_true]; exact h a w ha hw
theorem aX1 {id id' : Nat} (hne : Nat.beq id' id = false) (h : G X Ps Q (.exit id') σ) : G X Ps (Exit.inBlock id Q) (.exit id') σ := fun a w ha hw => by
 have : id' ≠ id := by rintro rfl; simp at hne
 simp only [Exit.inBlock, this, if_false]; exact h a w ha hw
def retL {β : Type} (T : TT) (σ : St) : List ResultVar → List Prop → (List Value → List Prop → Option β) → Option β
 | [], ob, k => k [] ob
 | .tmp t :: r, ob, k => match evp σ [] (.tmp t) ob with
  | some (v, ob) => cC v fun x => retL T σ r ob fun l ob => k (x :: l) ob
  | none => none
 | .cell a t :: r, ob, k => match opV T σ [] { dst := none, op := .load t (.tmp a), type := 0, pos := "", after := #[], guard := none } with
  | some (v, ob') => cC v fun x => retL T σ r (AllP ob' :: ob) fun l ob => k (x :: l) ob
  | none => none
def oneOf : List Value → Value
 | [v] => v
 | l => .tuple l.toArray
def retV (T : TT) (σ : St) (rs : Array ResultVar) : Option (Value × List Prop) := retL T σ rs.toList [] fun l ob => match l with
 | [v] => some (v, ob)
 | l => some (.tuple l.toArray, ob)
def rvS (a : Act) : ResultVar → Sem Value
 | .tmp t => pure (a.tmps.getD t undef)
 | .cell x t => do loadVar t (← asAddr (a.tmps.getD x undef))
theorem Q7 {β : Type} {P : Program} {N B : Nat} {ds : List Nat} {w0 w : World} {a : Act} (hT : TOk P T) (ha : HA N ds σ a) (hw : HW B w0 Ps σ w) : ∀ (rs : List ResultVar) (ob : List Prop) (k : List Value → List Prop → Option β) (r : β),
  retL T σ rs ob k = some r → ∃ l ob', k l ob' = some r ∧ l.length = rs.length ∧ (AllP ob' → AllP ob ∧
   (rs.mapM (rvS a)).run P w = .ok l w)
 | [], ob, k, r, h => ⟨[], ob, h, rfl, fun h => ⟨h, by simp⟩⟩
 | .tmp t :: rs, ob, k, r, h => by
  simp only [retL] at h
  split at h
  ·rename_i v ob1 hv
   rw [K5] at h
   obtain ⟨l, ob', hk, hl, hp⟩ := Q7 hT ha hw rs ob1 _ r h
   refine ⟨v.c :: l, ob', hk, by simp [hl], fun hob => ?_⟩
   obtain ⟨h1, h2⟩ := hp hob
   obtain ⟨h3, h4⟩ := q5 ha rfl hv h1
   simp only [Act.eval] at h3
   exact ⟨h4, by simp only [List.mapM_cons, rvS, h3, Sem.run_bind, Sem.run_pure, Result.andThen_ok, h2]⟩
  ·cases h
 | .cell x t :: rs, ob, k, r, h => by
  simp only [retL] at h
  split at h
  ·rename_i v ob1 hv
   rw [K5] at h
   obtain ⟨l, ob', hk, hl, hp⟩ := Q7 hT ha hw rs (AllP ob1 :: ob) _ r h
   refine ⟨v.c :: l, ob', hk, by simp [hl], fun hob => ?_⟩
   obtain ⟨h1, h2⟩ := hp hob
   refine ⟨h1.2, ?_⟩
   have h3 := M7 hT ha hw (ctx := []) rfl hv h1.1
   have h5 : ∃ b i off ob2, evp σ [] (.tmp x) [] = some (.p b i off, ob2) ∧ (AllP ob1 → AllP ob2) := by
    simp only [opV] at hv
    split at hv
    ·rename_i b i off ob2 he
     refine ⟨b, i, off, ob2, he, fun hq => ?_⟩
     split at hv
     ·split at hv
      ·split at hv
       ·obtain ⟨_, g2⟩ := N0 _ _ _ _ hv
        simp only [Option.some.injEq, Prod.mk.injEq] at g2
        obtain ⟨_, rfl⟩ := g2
        exact hq.2
       ·split at hv
        ·simp only [Option.some.injEq, Prod.mk.injEq] at hv
         obtain ⟨_, rfl⟩ := hv
         exact hq.2
        ·cases hv
      ·cases hv
     ·cases hv
    ·cases hv
   obtain ⟨b, i, off, ob2, he, hq⟩ := h5
   obtain ⟨h6, _⟩ := q5 ha rfl he (hq h1.1)
   have hcc : (PV.p b i off).c = .pointer (some ⟨b, off, none⟩) := rfl
   rw [hcc] at h6
   have h7 : a.tmps.getD x undef = .pointer (some ⟨b, off, none⟩) := h6
   simp only [execOp, h6, Instr.loadAt, Instr.sureAddr, Sem.run_bind, Sem.run_pure, Result.andThen_ok] at h3
   have h8 : (loadVar t ⟨b, off, none⟩).run P w = .ok v.c w := by
    generalize (loadVar t ⟨b, off, none⟩).run P w = q at h3 ⊢
    cases q with
    | ok u w1 => simp only [Result.andThen_ok, Result.ok.injEq, Next.value.injEq] at h3; obtain ⟨rfl, rfl⟩ := h3; rfl
    | halt e w1 => cases h3
   simp only [List.mapM_cons, rvS, h7, asAddr, Sem.run_bind, Sem.run_pure, Result.andThen_ok, h8, h2]
  ·cases h
theorem j4 {fn : Func} {R : Ending → World → Prop} {V : Value} {ob : List Prop} (h : retV X.T σ fn.results = some (V, ob)) (hob : AllP ob)
  (k : ∀ w, HW X.B X.w0 Ps σ w → R (.returned V) w) (hds : X.ds = [] := by rfl) : G X Ps (bodyPost X.P fn R) .ret σ := by
 intro a w ha hw
 unfold retV at h
 obtain ⟨l, ob', hk, hl, hp⟩ := Q7 X.hT ha hw _ _ _ _ h
 have hk' : V = oneOf l ∧ ob = ob' := by
  match l with
  | [] => simp only [Option.some.injEq, Prod.mk.injEq] at hk; exact ⟨hk.1.symm, hk.2.symm⟩
  | [x] => simp only [Option.some.injEq, Prod.mk.injEq] at hk; exact ⟨hk.1.symm, hk.2.symm⟩
  | _ :: _ :: _ => simp only [Option.some.injEq, Prod.mk.injEq] at hk; exact ⟨hk.1.symm, hk.2.symm⟩
 obtain ⟨rfl, rfl⟩ := hk'
 obtain ⟨_, h2⟩ := hp hob
 refine ⟨by rw [ha.defers, hds]; rfl, oneOf l, ?_, k w hw⟩
 have h3 : results fn a.tmps = (do let vs ← fn.results.mapM (rvS a); pure (if h : vs.size = 1 then vs[0] else .tuple vs)) := rfl
 rw [h3, Array.mapM_eq_mapM_toList]
 simp only [Sem.run_bind, Sem.run_map, h2, Result.andThen_ok]
 simp
 match l with
 | [] => rfl
 | [x] => rfl
 | _ :: _ :: _ => simp [oneOf]
theorem leavesM {P : Program} {fn : Func} {tmps : Array Value} {R : Ending → World → Prop} {v : Value} : ∀ (ds : List Nat) (w : World), (∀ D ∈ ds, w.heap[D]? = some (.deferred (some []))) → ds.Nodup →
  (∀ w', w'.heap.size = w.heap.size → w'.tape = w.tape → w'.os = w.os → w'.output = w.output → (∀ k, k ∉ ds → w'.heap[k]? = w.heap[k]?) → (results fn tmps).run P w' = .ok v w' ∧ R (.returned v) w') →
  LeavesInM (FR none) 9 P fn tmps R (marks ds) .returning w
 | [], w, _, _, h => by
  obtain ⟨h1, h2⟩ := h w rfl rfl rfl rfl (fun _ _ => rfl)
  exact ⟨_, h1, h2⟩
 | D :: ds, w, hd, hn, h => by
  rw [List.nodup_cons] at hn
  have hD := hd D (by simp)
  refine ⟨by simp, .inl ⟨D, _, rfl, run_takeDeferred hD, ?_⟩⟩
  show LeavesInM (FR none) 9 P fn tmps R (marks ds) .returning _
  refine leavesM (v := v) ds _ (fun E hE => ?_) hn.2 (fun w' h1 h2 h3 h4 h5 => ?_)
  ·rw [World.putObj_heap_other (fun e => hn.1 (by rw [← e]; exact hE))]
   exact hd E (by simp [hE])
  ·refine h w' (by rw [h1]; simp [World.putObj]) h2 h3 h4 (fun k hk => ?_)
   rw [List.mem_cons, not_or] at hk
   rw [h5 k hk.2, World.putObj_heap_other hk.1]
theorem aO0 {fn : Func} {R : Ending → World → Prop} {V : Value} {ob : List Prop} (Ps' : Past) (h : retV X.T σ fn.results = some (V, ob)) (hob : AllP ob)
  (hds : ∀ D ∈ X.ds, X.B ≤ D ∧ ∃ p ∈ Ps, p.2 D ∧ p.1.heap[D]? = some (.deferred (some []))) (hnd : X.ds.Nodup) (hPs : ∀ p ∈ Ps', p ∈ Ps ∧ ∀ D ∈ X.ds, ¬ p.2 D)
  (k : ∀ w, HW X.B X.w0 Ps' σ w → R (.returned V) w) : G X Ps (bodyM X.P fn R) .ret σ := by
 intro a w ha hw
 show LeavesInM (FR none) 9 X.P fn a.tmps R a.defers .returning w
 rw [ha.defers]
 refine leavesM (v := V) X.ds w (fun D hD => ?_) hnd (fun w' h1 h2 h3 h4 h5 => ?_)
 ·obtain ⟨_, p, hp, hpD, hh⟩ := hds D hD
  rw [(hw.past p hp D hpD).1.2]
  exact hh
 ·have hbx : ∀ x ∈ σ.bx, x.b ∉ X.ds := fun x hx hxD => by
   obtain ⟨_, p, hp, hpD, _⟩ := hds _ hxD
   exact (hw.past p hp _ hpD).2 x hx rfl
  have hrw : ∀ r ∈ σ.rw, ∀ g, r.val.ownBlock = some g → g ∉ X.ds := fun r hr g hg hgD => by
   obtain ⟨_, p, hp, hpD, _⟩ := hds _ hgD
   exact ((hw.row r hr).2 g hg).2 p hp hpD
  have hw' : HW X.B X.w0 Ps' σ w' := by
   refine ⟨⟨h3.trans hw.below.os, h2.trans hw.below.tape, h4.trans hw.below.output, by have := hw.below.size; omega, fun b hb => ?_⟩, by rw [h1]; exact hw.bsize, hw.nodup, fun x hx => ?_, fun p hp b hb => ?_, fun r hr => ?_, hw.apart, fun p hp => by rw [h1]; exact hw.old p (hPs p hp).1⟩
   ·rw [h5 b (fun hbD => by have := (hds b hbD).1; omega)]
    exact hw.below.block b hb
   ·rw [h5 _ (hbx x hx)]
    exact hw.box x hx
   ·obtain ⟨g1, g2⟩ := hw.past p (hPs p hp).1 b hb
    rw [h5 b (fun hbD => (hPs p hp).2 b hbD hb), h1]
    exact ⟨g1, g2⟩
   ·obtain ⟨g1, g2⟩ := hw.row r hr
    exact ⟨F9 g1 fun g hg => h5 g (hrw r hr g hg), fun g hg => ⟨(g2 g hg).1, fun p hp => (g2 g hg).2 p (hPs p hp).1⟩⟩
  refine ⟨?_, k w' hw'⟩
  unfold retV at h
  obtain ⟨l, ob', hk, hl, hp⟩ := Q7 X.hT ha hw' _ _ _ _ h
  have hk' : V = oneOf l ∧ ob = ob' := by
   match l with
   | [] => simp only [Option.some.injEq, Prod.mk.injEq] at hk; exact ⟨hk.1.symm, hk.2.symm⟩
   | [x] => simp only [Option.some.injEq, Prod.mk.injEq] at hk; exact ⟨hk.1.symm, hk.2.symm⟩
   | _ :: _ :: _ => simp only [Option.some.injEq, Prod.mk.injEq] at hk; exact ⟨hk.1.symm, hk.2.symm⟩
  obtain ⟨rfl, rfl⟩ := hk'
  obtain ⟨_, h2⟩ := hp hob
  have h3 : results fn a.tmps = (do let vs ← fn.results.mapM (rvS a); pure (if h : vs.size = 1 then vs[0] else .tuple vs)) := rfl
  rw [h3, Array.mapM_eq_mapM_toList]
  simp only [Sem.run_bind, Sem.run_map, h2, Result.andThen_ok]
  simp
  match l with
  | [] => rfl
  | [x] => rfl
  | _ :: _ :: _ => simp [oneOf]
theorem bz1 {fn : Func} {R : Ending → World → Prop} {V : Value} {ob : List Prop} (h : retV X.T σ fn.results = some (V, ob)) (hob : AllP ob)
  (k : ∀ w, HW X.B X.w0 Ps σ w → R (.returned V) w) (hds : X.ds = [] := by rfl) : G X Ps (bodyPost X.P fn R) .normal σ := j4 h hob k hds
def argsL : List Value → Nat → List (Nat × AV)
 | [], _ => []
 | v :: r, i => (i, .s (.v v)) :: argsL r (i + 1)
theorem N3 : ∀ (l : List Value) (i t : Nat) (v : AV), look (argsL l i) t = some v → i ≤ t ∧ ∃ u, l[t - i]? = some u ∧ v = .s (.v u)
 | [], i, t, v, h => by simp [argsL, look] at h
 | u :: r, i, t, v, h => by
  simp only [argsL, look] at h
  cases hb : Nat.beq i t with
  | true =>
   have := Nat.eq_of_beq_eq_true hb
   subst this
   rw [hb] at h
   simp only [cond_true, Option.some.injEq] at h
   exact ⟨Nat.le_refl _, u, by simp, h.symm⟩
  | false =>
   rw [hb] at h
   simp only [cond_false] at h
   obtain ⟨h1, u', h2, h3⟩ := N3 r (i + 1) t v h
   refine ⟨by omega, u', ?_, h3⟩
   rw [show t - i = (t - (i + 1)) + 1 by omega]
   simpa using h2
def argsC {β : Type} : List Value → Nat → (List (Nat × AV) → Option β) → Option β
 | [], _, k => k []
 | v :: r, i, k => argsC r (Nat.succ i) fun l => k ((i, .s (.v v)) :: l)
theorem V3 {β : Type} : ∀ (l : List Value) (i : Nat) (k : List (Nat × AV) → Option β) (r : β), argsC l i k = some r → k (argsL l i) = some r
 | [], i, k, r, h => h
 | v :: l, i, k, r, h => by
  simp only [argsC] at h
  exact V3 l (i + 1) _ r h
theorem i7 {P : Program} {f : FuncId} {fn : Func} {c : Code} {args : List Value} {w : World} {R : Ending → World → Prop} {N : Nat} (hT : TOk P T) (hf : P.funcs[f]? = some fn) (hb : fn.body = some c) (hN : fn.ntmps = N) (hn : args.length ≤ N)
  {sl : List (Nat × AV)} (hs : argsC args 0 some = some sl) (h : C ⟨P, T, hT, N, w.heap.size, w, [], none⟩ [(w, fun b => b < w.heap.size)] (bodyPost P fn R) c ⟨sl, [], []⟩) : Calls P f args.toArray w R := by
 subst hN
 have hs' := Option.some.inj (V3 _ _ _ _ hs)
 subst hs'
 refine calls_of_wp hf hb (wpIn_wide.1 (h _ w ⟨?_, rfl, fun t v hv => ?_⟩ ⟨Below.refl _ _, Nat.le_refl _, by simp, by simp, fun p hp b hpb => ?_, by simp, by simp, by simp⟩))
 ·simp; omega
 ·obtain ⟨_, u, h2, rfl⟩ := N3 args 0 t v hv
  simp only [Nat.sub_zero] at h2
  have : t < args.length := (List.getElem?_eq_some_iff.1 h2).1
  have h5 := (List.getElem?_eq_some_iff.1 h2).2
  simp [Array.getElem?_append, this, AV.c, PV.c, h5]
 ·simp only [List.mem_singleton] at hp
  subst hp
  exact ⟨⟨hpb, rfl⟩, by simp⟩
theorem aj1 {P : Program} {f : FuncId} {fn : Func} {c : Code} {args : List Value} {w : World} {R : Ending → World → Prop} {N : Nat} (hT : TOk P T) (hf : P.funcs[f]? = some fn) (hb : fn.body = some c) (hN : fn.ntmps = N) (hn : args.length ≤ N)
  {sl : List (Nat × AV)} (hs : argsC args 0 some = some sl) (h : C ⟨P, T, hT, N, w.heap.size, w, [], none⟩ [(w, fun b => b < w.heap.size)] (bodyM P fn R) c ⟨sl, [], []⟩) : Calls P f args.toArray w R := by
 subst hN
 have hs' := Option.some.inj (V3 _ _ _ _ hs)
 subst hs'
 refine callsR' (ro := none) (callsIn_of_wp_marks (n := 9) hf hb trivial (h _ w ⟨?_, rfl, fun t v hv => ?_⟩ ⟨Below.refl _ _, Nat.le_refl _, by simp, by simp, fun p hp b hpb => ?_, by simp, by simp, by simp⟩))
 ·simp; omega
 ·obtain ⟨_, u, h2, rfl⟩ := N3 args 0 t v hv
  simp only [Nat.sub_zero] at h2
  have : t < args.length := (List.getElem?_eq_some_iff.1 h2).1
  have h5 := (List.getElem?_eq_some_iff.1 h2).2
  simp [Array.getElem?_append, this, AV.c, PV.c, h5]
 ·simp only [List.mem_singleton] at hp
  subst hp
  exact ⟨⟨hpb, rfl⟩, by simp⟩
end
end Go.E
namespace Go.E
set_option maxHeartbeats 8000000
theorem cdS : (∀ a b : Bool, ((a || b) = true) = (a = true ∨ b = true)) ∧ (∀ a b : Bool, ((a && b) = true) = (a = true ∧ b = true)) ∧ (∀ a b : Bool, ((a || b) = false) = (a = false ∧ b = false)) ∧ (∀ a b : Bool, ((a && b) = false) = (a = false ∨ b = false))
  ∧ (∀ (p : Prop) [Decidable p], (decide p = true) = p) ∧ (∀ (p : Prop) [Decidable p], (decide p = false) = ¬ p) ∧ (∀ (α : Type) [BEq α] [LawfulBEq α] (a b : α), ((a == b) = true) = (a = b)) ∧ (∀ (α : Type) [BEq α] [LawfulBEq α] (a b : α), ((a != b) = true) = (a ≠ b))
  ∧ (∀ (α : Type) [BEq α] [LawfulBEq α] (a b : α), ((a == b) = false) = (a ≠ b)) ∧ (∀ (α : Type) [BEq α] [LawfulBEq α] (a b : α), ((a != b) = false) = (a = b)) ∧ (∀ (α : Type) (a b : α), (a ≠ b) = ¬ (a = b)) ∧ (∀ (p : Prop) [Decidable p], (¬ ¬ p) = p)
  ∧ (∀ (α : Type) (a b : α) (l m : List α), (a :: l = b :: m) = (a = b ∧ l = m)) ∧ (∀ p : Prop, (p ∧ True) = p) ∧ (∀ b : Bool, ((!b) = true) = (b = false)) ∧ (∀ b : Bool, ((!b) = false) = (b = true)) ∧ (∀ a b : Int, (¬ a < b) = (b ≤ a)) ∧ (∀ a b : Int, (¬ a ≤ b) = (b < a)) :=
 ⟨fun a b => by simp, fun a b => by simp, fun a b => by simp, fun a b => propext Bool.and_eq_false_iff, fun p _ => by simp, fun p _ => by simp, fun α _ _ a b => by simp, fun α _ _ a b => by simp, fun α _ _ a b => by simp, fun α _ _ a b => by simp, fun α a b => by simp, fun p _ => propext Decidable.not_not, fun α a b l m => by simp, fun p => by simp, fun b => by simp, fun b => by simp, fun a b => by simp, fun a b => by simp⟩
theorem cdF {g p : Prop} (h : p) (k : p → False := by intro h; first | (simp at h; done) | (simp only [not_true_eq_false, false_or, or_false] at h; omega)) : g := (k h).elim
end Go.E
