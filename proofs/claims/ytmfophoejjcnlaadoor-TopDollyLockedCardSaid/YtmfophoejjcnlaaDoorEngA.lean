/- A reflective executor for the pure operations of a region: definitions and soundness. No condition: every theorem is over any program. -/
import Derived.WalkKit
import Derived.Deep.MidRow
import Derived.Deep.Quiet
import Derived.Great.BuildSlice
import Derived.KernelRfl
namespace Go.E
set_option linter.unusedSimpArgs false
set_option linter.unusedVariables false
open Go.RowKit

inductive PV where
  | v (x : Value)
  | p (b i off : Nat)
  | r (A : Option Addr) (n cap i : Nat)

def PV.c : PV → Value
  | .v x => x
  | .p b _ off => .pointer (some ⟨b, off, none⟩)
  | .r A n cap _ => .slice A n cap

/-- The value, forced. -/
def cC {β : Type} : PV → (Value → Option β) → Option β
  | .v x, k => k x
  | .p b _ off, k => k (.pointer (some ⟨b, off, none⟩))
  | .r A n cap _, k => k (.slice A n cap)

theorem cC_eq {β : Type} (x : PV) (k : Value → Option β) : cC x k = k x.c := by cases x <;> rfl

inductive AV where
  | s (x : PV)
  | g (gs : List (Bool × Bool)) (x : PV)

def gOk : List (Bool × Bool) → Bool
  | [] => true
  | (c, w) :: gs => (c == w) && gOk gs

def AV.c : AV → Value
  | .s x => x.c
  | .g gs x => if gOk gs then x.c else undef

structure Bx where
  b : Nat
  ty : TypeId
  cs : List PV

structure Rw where
  e : TypeId
  size : Nat
  n : Nat
  xs : List Value
  val : Value

structure St where
  sl : List (Nat × AV)
  bx : List Bx
  rw : List Rw

inductive K where
  | struct (fs : List (Nat × Nat × Bool))
  | array (n e es : Nat) (er : Bool)
  | slice (e es : Nat)
  | str
  | int (k : IntKind)
  | bool
  | other

structure TI where
  size : Nat
  bytes : Nat
  row : Bool
  zero : List Value
  k : K

def look {α : Type} : List (Nat × α) → Nat → Option α
  | [], _ => none
  | (k, v) :: r, t => bif Nat.beq k t then some v else look r t

def nth {α : Type} : List α → Nat → Option α
  | [], _ => none
  | x :: _, 0 => some x
  | _ :: r, n + 1 => nth r n

def AllP : List Prop → Prop
  | [] => True
  | p :: ps => p ∧ AllP ps

def imp : List (Bool × Bool) → Prop → Prop
  | [], p => p
  | (c, w) :: r, p => c = w → imp r p

def ev (σ : St) : Operand → Option AV
  | .tmp t => look σ.sl t
  | .const v => some (.s (.v v))
  | .global g => some (.s (.v (.pointer (some ⟨g, 0, none⟩))))
  | .func f => some (.s (.v (.func (.func f) #[] #[])))

/-- The residue of a guarded value under the context of its reader. -/
def strip : List (Bool × Bool) → List (Bool × Bool) → List Prop → Option (List (Bool × Bool) × List Prop)
  | [], gs, ob => some (gs, ob)
  | _ :: _, [], ob => some ([], ob)
  | (c0, w0) :: ctx, (c, w) :: gs, ob => strip ctx gs ((c = c0) :: (w = w0) :: ob)

def evp (σ : St) (ctx : List (Bool × Bool)) (x : Operand) (ob : List Prop) : Option (PV × List Prop) :=
  match ev σ x with
  | some (.s v) => some (v, ob)
  | some (.g gs v) => match strip ctx gs ob with
    | some ([], ob) => some (v, ob)
    | _ => none
  | none => none

def evArm (σ : St) (ctx : List (Bool × Bool)) (x : Operand) (c w : Bool) (ob : List Prop) : Option (PV × List Prop) :=
  match ev σ x with
  | some (.s v) => some (v, ob)
  | some (.g gs v) => match strip ctx gs ob with
    | some ([], ob) => some (v, ob)
    | some ([(c', w')], ob) => some (v, (c' = c) :: (w' = w) :: ob)
    | _ => none
  | none => none

/-- The cells from an offset on, as values. -/
def takeC {β : Type} : Nat → List PV → (List Value → Option β) → Option β
  | 0, _, k => k []
  | _ + 1, [], _ => none
  | n + 1, x :: r, k => cC x fun v => takeC n r fun l => k (v :: l)

def dropC {α : Type} : Nat → List α → List α
  | 0, l => l
  | _ + 1, [] => []
  | n + 1, _ :: r => dropC n r

def takeV {β : Type} : Nat → List Value → (List Value → Option β) → Option β
  | 0, _, k => k []
  | _ + 1, [], _ => none
  | n + 1, x :: r, k => takeV n r fun l => k (x :: l)

/-- New cells over old ones from an offset on. -/
def putC {α β : Type} : Nat → List α → List α → (List α → Option β) → Option β
  | 0, new, [], k => match new with | [] => k [] | _ :: _ => none
  | 0, [], old, k => k old
  | 0, x :: new, _ :: old, k => putC 0 new old fun l => k (x :: l)
  | _ + 1, _, [], _ => none
  | n + 1, new, o :: old, k => putC n new old fun l => k (o :: l)

def updB {β : Type} : Nat → List Bx → (Bx → (Bx → Option β) → Option β) → (List Bx → Option β) → Option β
  | _, [], _, _ => none
  | 0, x :: r, f, k => f x fun y => k (y :: r)
  | n + 1, x :: r, f, k => updB n r f fun l => k (x :: l)

def cellsOf : PV → List PV
  | .v (.agg cs) => cs.toList.map .v
  | x => [x]

def inR : IntKind → Int → Prop
  | .i64, z => -9223372036854775808 ≤ z ∧ z ≤ 9223372036854775807
  | .i32, z => -2147483648 ≤ z ∧ z ≤ 2147483647
  | .i16, z => -32768 ≤ z ∧ z ≤ 32767
  | .i8, z => -128 ≤ z ∧ z ≤ 127
  | .u64, z => 0 ≤ z ∧ z ≤ 18446744073709551615
  | .u32, z => 0 ≤ z ∧ z ≤ 4294967295
  | .u16, z => 0 ≤ z ∧ z ≤ 65535
  | .u8, z => 0 ≤ z ∧ z ≤ 255

theorem inR_wrap {k : IntKind} {z : Int} (h : inR k z) : k.wrap z = z := by
  cases k <;> simp only [inR] at h <;> simp only [IntKind.wrap, IntKind.bits, IntKind.signed] <;> (try simp) <;> omega

/-! ### The table of types -/

def rowOf : TypeDesc → Bool
  | .struct _ | .array _ _ => true
  | _ => false

def fieldOf (P : Program) (f : Field) : Option (Nat × Nat × Bool) :=
  match P.info? f.type, P.underlying f.type with
  | some i, some d => some (f.offset, i.size, rowOf d)
  | _, _ => none

def mapO {α β : Type} (f : α → Option β) : List α → Option (List β)
  | [] => some []
  | x :: r => match f x with
    | some y => match mapO f r with
      | some ys => some (y :: ys)
      | none => none
    | none => none

def kOf (P : Program) : TypeDesc → K
  | .struct fs => match mapO (fieldOf P) fs.toList with
    | some l => .struct l
    | none => .other
  | .array n e => match P.info? e, P.underlying e with
    | some i, some d => .array n e i.size (rowOf d)
    | _, _ => .other
  | .slice e => match P.info? e with
    | some i => .slice e i.size
    | none => .other
  | .string => .str
  | .int k => .int k
  | .bool => .bool
  | _ => .other

def tiOf (P : Program) (t : TypeId) : Option TI :=
  match P.info? t, P.underlying t with
  | some i, some d => match i.zero with
    | some z => some { size := i.size, bytes := i.bytes, row := rowOf d, zero := z.cells.toList, k := kOf P d }
    | none => none
  | _, _ => none

abbrev TT := List (Nat × TI)
def TOk (P : Program) (T : TT) : Prop := T.map (fun x => tiOf P x.1) = T.map (fun x => some x.2)

theorem look_mem {α : Type} : ∀ (l : List (Nat × α)) (t : Nat) (v : α), look l t = some v → (t, v) ∈ l
  | [], _, _, h => by simp [look] at h
  | (k, u) :: r, t, v, h => by
    simp only [look] at h
    cases hk : Nat.beq k t with
    | true =>
      rw [hk] at h
      simp only [cond_true, Option.some.injEq] at h
      have := Nat.eq_of_beq_eq_true hk
      subst this; subst h
      simp
    | false =>
      rw [hk] at h
      exact List.mem_cons_of_mem _ (look_mem r t v h)

theorem TOk.at_ {P : Program} {T : TT} (h : TOk P T) {t : Nat} {ti : TI} (hl : look T t = some ti) : tiOf P t = some ti := by
  have hm := look_mem T t ti hl
  unfold TOk at h
  exact List.map_inj_left.1 h (t, ti) hm

/-! ### One operation -/

def arith (op : BinOp) (k : IntKind) (x y : Int) (ob : List Prop) : Option (PV × List Prop) :=
  match op with
  | .add => some (.v (.int k (x + y)), inR k (x + y) :: ob)
  | .sub => some (.v (.int k (x - y)), inR k (x - y) :: ob)
  | .mul => some (.v (.int k (x * y)), inR k (x * y) :: ob)
  | .quo => some (.v (.int k (x / y)), (0 ≤ x ∧ 0 < y ∧ inR k x) :: ob)
  | .rem => some (.v (.int k (x % y)), (0 ≤ x ∧ 0 < y) :: ob)
  | .eql => some (.v (.bool (x == y)), ob)
  | .neq => some (.v (.bool (x != y)), ob)
  | .lss => some (.v (.bool (decide (x < y))), ob)
  | .leq => some (.v (.bool (decide (x ≤ y))), ob)
  | .gtr => some (.v (.bool (decide (y < x))), ob)
  | .geq => some (.v (.bool (decide (y ≤ x))), ob)
  | _ => none

def binV (op : BinOp) (x y : PV) (ob : List Prop) : Option (PV × List Prop) :=
  match x, y with
  | .v (.int k a), .v (.int k' b) => arith op k a b ((k = k') :: ob)
  | .v (.string a), .v (.string b) => match op with
    | .eql => some (.v (.bool (a.toList == b.toList)), ob)
    | .neq => some (.v (.bool (!(a.toList == b.toList))), ob)
    | _ => none
  | _, _ => none

def pickV (ca cb : Operand) (c : Bool) (x y : PV) (ob : List Prop) : Option (PV × List Prop) :=
  match x, y with
  | .v (.bool p), .v (.bool q) => match ca with
    | .const (.bool true) => some (.v (.bool (c || q)), (p = true) :: ob)
    | _ => match cb with
      | .const (.bool false) => some (.v (.bool (c && p)), (q = false) :: ob)
      | _ => some (.v (.bool (cond c p q)), ob)
  | _, _ => none

/-- The values of parts, in order. -/
def partsV (σ : St) (ctx : List (Bool × Bool)) {β : Type} : List (Nat × Operand) → List Prop → (List (Nat × PV) → List Prop → Option β) → Option β
  | [], ob, k => k [] ob
  | (i, x) :: r, ob, k => match evp σ ctx x ob with
    | some (v, ob) => partsV σ ctx r ob fun l ob => k ((i, v) :: l) ob
    | none => none

def placeOf : K → Nat → Option (Nat × Nat)
  | .struct fs, i => match nth fs i with
    | some (off, sz, _) => some (off, sz)
    | none => none
  | .array _ _ es _, i => some (i * es, es)
  | _, _ => none

/-- The cells of a literal of a struct or an array: the zero cells with the parts over them. -/
def buildC {β : Type} (k : K) : List (Nat × PV) → List PV → (List PV → Option β) → Option β
  | [], cs, f => f cs
  | (i, v) :: r, cs, f => match placeOf k i with
    | some (off, sz) => bif Nat.beq (cellsOf v).length sz then putC off (cellsOf v) cs fun cs => buildC k r cs f else none
    | none => none

def valC {β : Type} : List (Nat × PV) → (List Value → Option β) → Option β
  | [], k => k []
  | (_, v) :: r, k => cC v fun x => valC r fun l => k (x :: l)

def opV (T : TT) (σ : St) (ctx : List (Bool × Bool)) (o : Oper) : Option (PV × List Prop) :=
  match o.op with
  | .move x => evp σ ctx x []
  | .assign x => evp σ ctx x []
  | .pick c a b => match evp σ ctx c [] with
    | some (.v (.bool cv), ob) => match evArm σ ctx a cv true ob with
      | some (x, ob) => match evArm σ ctx b cv false ob with
        | some (y, ob) => pickV a b cv x y ob
        | none => none
      | none => none
    | _ => none
  | .build t parts => match look T t with
    | some ti => match ti.k with
      | .struct fs => partsV σ ctx parts.toList [] fun l ob => buildC (.struct fs) l (ti.zero.map .v) fun cs => takeC cs.length cs fun vs => some (.v (.agg vs.toArray), ob)
      | .array n e es er => partsV σ ctx parts.toList [] fun l ob => buildC (.array n e es er) l (ti.zero.map .v) fun cs => takeC cs.length cs fun vs => some (.v (.agg vs.toArray), ob)
      | _ => none
    | none => none
  | .load t x => match evp σ ctx x [] with
    | some (.p b i off, ob) => match nth σ.bx i with
      | some bx => match look T t with
        | some ti => match ti.row with
          | true => takeC ti.size (dropC off bx.cs) fun vs => some (.v (.agg vs.toArray), (b = bx.b) :: ob)
          | false => match dropC off bx.cs with
            | x :: _ => some (x, (b = bx.b) :: ob)
            | [] => none
        | none => none
      | none => none
    | _ => none
  | .fieldAddr t x f => match evp σ ctx x [] with
    | some (.p b i off, ob) => match look T t with
      | some ti => match ti.k with
        | .struct fs => match nth fs f with
          | some (foff, fsz, _) => match fsz with
            | 0 => none
            | _ + 1 => some (.p b i (off + foff), ob)
          | none => none
        | _ => none
      | none => none
    | some (.v (.pointer (some a)), ob) => match look T t with
      | some ti => match ti.k with
        | .struct fs => match nth fs f with
          | some (foff, fsz, _) => match fsz with
            | 0 => none
            | _ + 1 => some (.v (.pointer (some (a.add foff))), ob)
          | none => none
        | _ => none
      | none => none
    | _ => none
  | .field t x f => match evp σ ctx x [] with
    | some (.v (.agg cs), ob) => match look T t with
      | some ti => match ti.k with
        | .struct fs => match nth fs f with
          | some (foff, fsz, frow) => match frow with
            | true => takeV fsz (dropC foff cs.toList) fun vs => some (.v (.agg vs.toArray), ob)
            | false => match dropC foff cs.toList with
              | x :: _ => some (.v x, ob)
              | [] => none
          | none => none
        | _ => none
      | none => none
    | _ => none
  | .binOp op _ x y _ => match evp σ ctx x [] with
    | some (a, ob) => match evp σ ctx y ob with
      | some (b, ob) => binV op a b ob
      | none => none
    | none => none
  | .unOp op _ x => match evp σ ctx x [] with
    | some (.v (.bool a), ob) => match op with
      | .not => some (.v (.bool (!a)), ob)
      | _ => none
    | some (.v (.int k a), ob) => match op with
      | .neg => some (.v (.int k (0 - a)), inR k (0 - a) :: ob)
      | _ => none
    | _ => none
  | .convert s d x => match evp σ ctx x [] with
    | some (.v (.int _ n), ob) => match look T d with
      | some ti => match ti.k with
        | .int k => match look T s with
          | some _ => some (.v (.int k n), inR k n :: ob)
          | none => none
        | _ => none
      | none => none
    | _ => none
  | .extract x i => match evp σ ctx x [] with
    | some (.v (.tuple vs), ob) => match nth vs.toList i with
      | some v => some (.v v, ob)
      | none => none
    | _ => none
  | .nilCheck x => match evp σ ctx x [] with
    | some (.p b i off, ob) => some (.p b i off, ob)
    | some (.v (.pointer (some a)), ob) => some (.v (.pointer (some a)), ob)
    | _ => none
  | .makeFunc fn first cap => partsV σ ctx (first.toList.map fun x => (0, x)) [] fun l ob => partsV σ ctx (cap.toList.map fun x => (0, x)) ob fun l' ob =>
      valC l fun vs => valC l' fun vs' => some (.v (.func fn vs.toArray vs'.toArray), ob)
  | .indexAddr t x ix => match evp σ ctx x [] with
    | some (xv, ob) => match evp σ ctx ix ob with
      | some (.v (.int _ n), ob) => match look T t with
        | some ti => match ti.k with
          | .array len _ es _ => match xv with
            | .p b i off => some (.p b i (off + n.toNat * es), (0 ≤ n ∧ n < len) :: ob)
            | .v (.pointer (some a)) => some (.v (.pointer (some (a.add (n.toNat * es)))), (0 ≤ n ∧ n < len) :: ob)
            | _ => none
          | .slice _ es => match xv with
            | .v (.slice (some a) len _) => some (.v (.pointer (some (a.add (n.toNat * es)))), (0 ≤ n ∧ n < len) :: ob)
            | .r (some a) len _ _ => some (.v (.pointer (some (a.add (n.toNat * es)))), (0 ≤ n ∧ n < len) :: ob)
            | _ => none
          | _ => none
        | none => none
      | _ => none
    | none => none
  | .index t x ix => match evp σ ctx x [] with
    | some (.v (.agg cs), ob) => match evp σ ctx ix ob with
      | some (.v (.int _ n), ob) => match look T t with
        | some ti => match ti.k with
          | .array len _ es er => match er with
            | true => takeV es (dropC (n.toNat * es) cs.toList) fun vs => some (.v (.agg vs.toArray), (0 ≤ n ∧ n < len) :: ob)
            | false => match dropC (n.toNat * es) cs.toList with
              | x :: _ => some (.v x, (0 ≤ n ∧ n < len) :: ob)
              | [] => none
          | _ => none
        | none => none
      | _ => none
    | _ => none
  | .call c => match c.callee with
    | .builtin .len => match c.args.toList with
      | [x] => match c.argTypes.toList with
        | [t] => match evp σ ctx x [] with
          | some (xv, ob) => match look T t with
            | some ti => match ti.k with
              | .str => match xv with
                | .v (.string s) => some (.v (.int .i64 s.size), ob)
                | _ => none
              | .slice _ _ => match xv with
                | .v (.slice _ n _) => some (.v (.int .i64 n), ob)
                | .r _ n _ _ => some (.v (.int .i64 n), ob)
                | _ => none
              | .array n _ _ _ => some (.v (.int .i64 n), ob)
              | _ => none
            | none => none
          | none => none
        | _ => none
      | _ => none
    | .builtin .max => match c.args.toList with
      | [x, y] => match evp σ ctx x [] with
        | some (.v (.int k a), ob) => match evp σ ctx y ob with
          | some (.v (.int _ b), ob) => some (.v (.int k (max a b)), ob)
          | _ => none
        | _ => none
      | _ => none
    | .builtin .min => match c.args.toList with
      | [x, y] => match evp σ ctx x [] with
        | some (.v (.int k a), ob) => match evp σ ctx y ob with
          | some (.v (.int _ b), ob) => some (.v (.int k (min a b)), ob)
          | _ => none
        | _ => none
      | _ => none
    | _ => none
  | _ => none

end Go.E
