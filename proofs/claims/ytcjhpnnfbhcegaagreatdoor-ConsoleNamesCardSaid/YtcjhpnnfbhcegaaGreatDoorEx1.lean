/- An executor over abstract worlds. Conditions: none; definitions alone. -/
import GoSem.Step
/- An executor over abstract worlds: what one run of a call does, whatever the blocks' numbers, the capacities and the tape. Conditions: none; definitions alone. -/
namespace Go.Ex

/-- a number's worth, worked out -/
noncomputable def forceN {α : Type} (n : Nat) (f : Nat → α) : α := Nat.rec (f 0) (fun m _ => f (Nat.succ m)) n

/-! ### tries over numbers: four ways at a node -/
inductive Dg where
  | a | b | c | d
  deriving Inhabited, DecidableEq
inductive T (α : Type) where
  | e
  | n (v : Option α) (a b c d : T α)
  deriving Inhabited

namespace T
variable {α : Type}
def dg (n : Nat) : Dg := match n with
  | 0 => .a
  | 1 => .b
  | 2 => .c
  | _ => .d
/-- a key's way: the root is 0 -/
def pathF : Nat → Nat → List Dg
  | 0 => fun _ => []
  | f + 1 => fun k => match k with
    | 0 => []
    | m + 1 => dg (Nat.mod m 4) :: pathF f (Nat.div m 4)
def path (k : Nat) : List Dg := pathF k k
noncomputable def getR (t : T α) : List Dg → Option α :=
  T.rec (fun _ => none) (fun v _ _ _ _ ia ib ic id p => List.rec v (fun g q _ => Dg.rec (ia q) (ib q) (ic q) (id q) g) p) t
noncomputable def singleR (v : α) (p : List Dg) : T α :=
  List.rec (.n (some v) .e .e .e .e) (fun g _ ih => Dg.rec (.n none ih .e .e .e) (.n none .e ih .e .e) (.n none .e .e ih .e) (.n none .e .e .e ih) g) p
noncomputable def putR (v : α) (t : T α) : List Dg → T α :=
  T.rec (fun p => singleR v p) (fun u a b c d ia ib ic id p => List.rec (.n (some v) a b c d) (fun g q _ => Dg.rec (.n u (ia q) b c d) (.n u a (ib q) c d) (.n u a b (ic q) d) (.n u a b c (id q)) g) p) t
noncomputable def delR (t : T α) : List Dg → T α :=
  T.rec (fun _ => .e) (fun u a b c d ia ib ic id p => List.rec (.n none a b c d) (fun g q _ => Dg.rec (.n u (ia q) b c d) (.n u a (ib q) c d) (.n u a b (ic q) d) (.n u a b c (id q)) g) p) t
noncomputable def get (t : T α) (k : Nat) : Option α := forceN k fun k => getR t (path k)
noncomputable def set (t : T α) (k : Nat) (v : α) : T α := forceN k fun k => putR v t (path k)
noncomputable def del (t : T α) (k : Nat) : T α := forceN k fun k => delR t (path k)
end T

/-! ### values -/
inductive SV where
  | bool (b : Bool)
  | int (k : IntKind) (n : Int)
  | str (s : List UInt8)
  | nilp
  | ptr (b off : Nat)
  | nils
  | slice (b off len cap sz : Nat) (ex : Bool)
  | map0
  | map (b : Nat)
  | func (fn : Fn) (first captured : List SV)
  | nilf
  | iface (t : TypeId) (v : SV)
  | nili
  | agg (l : List SV)
  | tup (l : List SV)
  deriving Inhabited

/-- constants -/
def ofValue : Nat → Value → Option SV
  | 0, _ => none
  | f + 1, v => match v with
    | .bool b => some (.bool b)
    | .int k n => some (.int k n)
    | .string s => some (.str s.data.toList)
    | .pointer none => some .nilp
    | .slice none 0 0 => some .nils
    | .map none => some .map0
    | .func fn first cap => match fn, first.toList, cap.toList with
      | .yield _, _, _ => none
      | fn, [], [] => some (.func fn [] [])
      | _, _, _ => none
    | .nilFunc => some .nilf
    | .nilIface => some .nili
    | .iface t v => match ofValue f v with | some x => some (.iface t x) | none => none
    | .agg cs => match go f cs.toList with | some l => some (.agg l) | none => none
    | .tuple cs => match go f cs.toList with | some l => some (.tup l) | none => none
    | _ => none
    where
  go (f : Nat) : List Value → Option (List SV)
    | [] => some []
    | v :: r => match ofValue f v, go f r with
      | some x, some l => some (x :: l)
      | _, _ => none

structure Blk where
  d : T SV
  n : Nat
  elem : TypeId
  grp : Nat
  deriving Inhabited

inductive ATgt where
  | fn (f : Fn) (captured : List SV)
  | collected (b : Nat)
  deriving Inhabited

structure ADef where
  tgt : ATgt
  args : List SV
  deriving Inhabited

structure ALoop where
  state : LoopState
  pending : Option Code
  fn : FuncId
  tmps : T SV
  nt : Nat
  params : List Tmp
  assign : Code
  body : Code
  defers : Nat
  deriving Inhabited

inductive AObj where
  | cells (b : Blk)
  | map (es : List (SV × SV × Nat)) (clock : Nat)
  | mapIter (m : Option Nat) (since : Nat) (seen : List Nat) (stepped : Nat)
  | strIter (s : List UInt8) (pos : Nat)
  | loop (l : ALoop)
  | deferred (l : Option (List ADef))
  deriving Inhabited

structure AH where
  next : Nat
  t : T AObj
  g : T (List Nat)
  d : Option (List Nat)
  deriving Inhabited

noncomputable def AH.put (h : AH) (b : Nat) (o : AObj) : AH := ⟨h.next, h.t.set b o, h.g, match h.d with | none => none | some l => some (b :: l)⟩
noncomputable def AH.drop (h : AH) (b : Nat) : AH := ⟨h.next, h.t.del b, h.g, match h.d with | none => none | some l => some (b :: l)⟩
noncomputable def AH.setG (h : AH) (k : Nat) (l : List Nat) : AH := ⟨h.next, h.t, h.g.set k l, h.d⟩

structure APan where
  v : SV
  recovered : Bool
  deriving Inhabited

inductive AMode where
  | run | returning | panicking (c : List APan)
  deriving Inhabited

inductive AItem where
  | code (c : Code)
  | inBlock (id : Nat)
  | inLoop (body : Code)
  | inRangeFunc (l : Nat)
  | endRangeFunc (l : Nat)
  | beginRound
  deriving Inhabited

inductive Out where
  | ret (v : SV)
  | panic (c : List APan)
  deriving Inhabited

/-! ### small words -/
def SV.cells : SV → List SV
  | .agg l => l
  | v => [v]
def isOne : SV → Bool
  | .agg _ | .tup _ => false
  | _ => true
def i64 (n : Nat) : SV := .int .i64 (.ofNat n)

noncomputable def fillT (t : T SV) (i : Nat) (l : List SV) : T SV :=
  List.rec (fun _ t => t) (fun v _ ih i t => ih (Nat.succ i) (t.set i v)) l i t
/-- the cells off .. off + k, all known -/
noncomputable def cellsOf (t : T SV) (k : Nat) : Nat → Option (List SV) :=
  Nat.rec (fun _ => some []) (fun _ ih off => match t.get off with
    | none => none
    | some v => match ih (Nat.succ off) with
      | none => none
      | some l => some (v :: l)) k
noncomputable def storeT (l : List SV) : Nat → T SV → Option (T SV) :=
  List.rec (fun _ t => some t) (fun v _ ih i t => match isOne v with
    | true => ih (Nat.succ i) (t.set i v)
    | false => none) l

noncomputable def AH.new (h : AH) (o : AObj) : AH := ⟨Nat.succ h.next, h.t.set h.next o, h.g, match h.d with | none => none | some l => some (h.next :: l)⟩
noncomputable def AH.newCells (h : AH) (elem : TypeId) (l : List SV) : AH := h.new (.cells ⟨fillT .e 0 l, l.length, elem, h.next⟩)
noncomputable def AH.load (h : AH) (b off n : Nat) : Option (List SV) :=
  match h.t.get b with
  | some (.cells k) => match Nat.ble (Nat.add off n) k.n with
    | true => cellsOf k.d n off
    | false => none
  | _ => none
noncomputable def AH.load1 (h : AH) (b off : Nat) : Option SV :=
  match h.t.get b with
  | some (.cells k) => match Nat.blt off k.n with
    | true => k.d.get off
    | false => none
  | _ => none
/-- other members of the group whose cells from lo on are known are forgotten -/
noncomputable def AH.killL (me lo : Nat) : List Nat → AH → AH × List Nat
  | [], h => (h, [])
  | m :: r, h =>
    match AH.killL me lo r h with
    | (h, l) => match Nat.beq m me with
      | true => (h, m :: l)
      | false => match h.t.get m with
        | some (.cells k) => match Nat.ble k.n lo with
          | true => (h, m :: l)
          | false => (h.drop m, l)
        | _ => (h, l)
noncomputable def AH.kill (h : AH) (g me lo : Nat) : AH :=
  match h.g.get g with
  | none => h
  | some l => match AH.killL me lo l h with
    | (h, l') => h.setG g l'
noncomputable def AH.dropL (me : Nat) : List Nat → AH → AH
  | [], h => h
  | m :: r, h => match Nat.beq m me with
    | true => AH.dropL me r h
    | false => AH.dropL me r (h.drop m)
/-- the group of a block that is grown: it, and the new one -/
noncomputable def AH.forkG (h : AH) (g b : Nat) : AH := match h.g.get g with
  | none => h.setG g [h.next, b]
  | some l => (AH.dropL b l h).setG g [h.next, b]
/-- blocks below this number are variables of the package's: not written -/
def base : Nat := 1000
noncomputable def AH.store (h : AH) (b off : Nat) (l : List SV) : Option AH :=
  match h.t.get b with
  | some (.cells k) => match Nat.ble (Nat.add off l.length) k.n, Nat.ble base b with
    | true, true => match storeT l off k.d with
      | some d => some ((h.kill k.grp b off).put b (.cells ⟨d, k.n, k.elem, k.grp⟩))
      | none => none
    | _, _ => none
  | _ => none

abbrev R1 := Option (SV × AH)

/-! ### numbers -/
def lim : IntKind → Nat
  | .i8 => 128 | .i16 => 32768 | .i32 => 2147483648 | .i64 => 9223372036854775808
  | .u8 => 256 | .u16 => 65536 | .u32 => 4294967296 | .u64 => 18446744073709551616
def wrapF (k : IntKind) (n : Int) : Int :=
  match n with
  | .ofNat m => match Nat.blt m (lim k) with
    | true => .ofNat m
    | false => k.wrap n
  | .negSucc _ => k.wrap n
def ltF : Int → Int → Bool
  | .ofNat x, .ofNat y => Nat.blt x y
  | .negSucc _, .ofNat _ => true
  | .ofNat _, .negSucc _ => false
  | .negSucc x, .negSucc y => Nat.blt y x
def eqF : Int → Int → Bool
  | .ofNat x, .ofNat y => Nat.beq x y
  | .negSucc x, .negSucc y => Nat.beq x y
  | _, _ => false
def kindEq : IntKind → IntKind → Bool
  | .i8, .i8 | .i16, .i16 | .i32, .i32 | .i64, .i64 | .u8, .u8 | .u16, .u16 | .u32, .u32 | .u64, .u64 => true
  | _, _ => false
/-- two numbers that are not negative, and small enough for the kind's bits -/
def bits2 (f : Nat → Nat → Nat) (k : IntKind) (a b : Int) (slow : Int) : Int :=
  match a, b with
  | .ofNat x, .ofNat y => match Nat.blt x (lim k), Nat.blt y (lim k) with
    | true, true => .ofNat (f x y)
    | _, _ => slow
  | _, _ => slow
def aAdd (k : IntKind) (a b : Int) : Option SV := some (.int k (wrapF k (Int.add a b)))
def aSub (k : IntKind) (a b : Int) : Option SV := some (.int k (wrapF k (Int.sub a b)))
def aMul (k : IntKind) (a b : Int) : Option SV := some (.int k (wrapF k (Int.mul a b)))
def aQuo (k : IntKind) (a b : Int) : Option SV := match eqF b (.ofNat 0) with
  | true => none
  | false => some (.int k (wrapF k (Int.tdiv a b)))
def aRem (k : IntKind) (a b : Int) : Option SV := match eqF b (.ofNat 0) with
  | true => none
  | false => some (.int k (Int.tmod a b))
def slowAnd (k : IntKind) (a b : Int) : Int := k.wrap ((BitVec.ofInt k.bits a) &&& (BitVec.ofInt k.bits b)).toNat
def slowOr (k : IntKind) (a b : Int) : Int := k.wrap ((BitVec.ofInt k.bits a) ||| (BitVec.ofInt k.bits b)).toNat
def slowXor (k : IntKind) (a b : Int) : Int := k.wrap ((BitVec.ofInt k.bits a) ^^^ (BitVec.ofInt k.bits b)).toNat
def aAnd (k : IntKind) (a b : Int) : Option SV := some (.int k (bits2 Nat.land k a b (slowAnd k a b)))
def aOr (k : IntKind) (a b : Int) : Option SV := some (.int k (bits2 Nat.lor k a b (slowOr k a b)))
def aXor (k : IntKind) (a b : Int) : Option SV := some (.int k (bits2 Nat.xor k a b (slowXor k a b)))
def aAndNot (k : IntKind) (a b : Int) : Option SV := some (.int k (k.wrap ((BitVec.ofInt k.bits a) &&& ~~~(BitVec.ofInt k.bits b)).toNat))
def aEql (_ : IntKind) (a b : Int) : Option SV := some (.bool (eqF a b))
def aNeq (_ : IntKind) (a b : Int) : Option SV := some (.bool (not (eqF a b)))
def aLss (_ : IntKind) (a b : Int) : Option SV := some (.bool (ltF a b))
def aLeq (_ : IntKind) (a b : Int) : Option SV := some (.bool (not (ltF b a)))
def aGtr (_ : IntKind) (a b : Int) : Option SV := some (.bool (ltF b a))
def aGeq (_ : IntKind) (a b : Int) : Option SV := some (.bool (not (ltF a b)))
def dAr (f : IntKind → Int → Int → Option SV) (k k' : IntKind) (a b : Int) : Option SV := match kindEq k k' with
  | true => f k a b
  | false => none
def minN (a b : Nat) : Nat := match Nat.blt a b with | true => a | false => b
def dShl (k _k' : IntKind) (a b : Int) : Option SV := match b with
  | .negSucc _ => none
  | .ofNat n => match a with
    | .ofNat x => some (.int k (wrapF k (.ofNat (Nat.mul x (Nat.pow 2 (minN n k.bits))))))
    | .negSucc x => some (.int k (k.wrap (Int.negSucc x * 2 ^ (minN n k.bits))))
def dShr (k _k' : IntKind) (a b : Int) : Option SV := match b with
  | .negSucc _ => none
  | .ofNat n => match a with
    | .ofNat x => some (.int k (.ofNat (Nat.div x (Nat.pow 2 (minN n k.bits)))))
    | .negSucc x => some (.int k ((Int.negSucc x).fdiv (2 ^ (minN n k.bits))))
def intDo (op : BinOp) : IntKind → IntKind → Int → Int → Option SV :=
  match op with
  | .add => dAr aAdd | .sub => dAr aSub | .mul => dAr aMul | .quo => dAr aQuo | .rem => dAr aRem
  | .and => dAr aAnd | .or => dAr aOr | .xor => dAr aXor | .andNot => dAr aAndNot
  | .shl => dShl | .shr => dShr
  | .eql => dAr aEql | .neq => dAr aNeq | .lss => dAr aLss | .leq => dAr aLeq | .gtr => dAr aGtr | .geq => dAr aGeq
def bytesEq : List UInt8 → List UInt8 → Bool
  | [], [] => true
  | a :: r, b :: s => match Nat.beq a.toNat b.toNat with | true => bytesEq r s | false => false
  | _, _ => false
def bytesLt : List UInt8 → List UInt8 → Bool
  | _, [] => false
  | [], _ :: _ => true
  | a :: x, b :: y => match Nat.blt a.toNat b.toNat with
    | true => true
    | false => match Nat.beq a.toNat b.toNat with | true => bytesLt x y | false => false
def sAdd (a b : List UInt8) : Option SV := match Nat.blt (Nat.add a.length b.length) 1073741824 with
  | true => some (.str (a ++ b))
  | false => none
def sEql (a b : List UInt8) : Option SV := some (.bool (bytesEq a b))
def sNeq (a b : List UInt8) : Option SV := some (.bool (not (bytesEq a b)))
def sLss (a b : List UInt8) : Option SV := some (.bool (bytesLt a b))
def sLeq (a b : List UInt8) : Option SV := some (.bool (or (bytesLt a b) (bytesEq a b)))
def sGtr (a b : List UInt8) : Option SV := some (.bool (not (or (bytesLt a b) (bytesEq a b))))
def sGeq (a b : List UInt8) : Option SV := some (.bool (not (bytesLt a b)))
def sNone (_ _ : List UInt8) : Option SV := none
def stringF (op : BinOp) : List UInt8 → List UInt8 → Option SV :=
  match op with
  | .add => sAdd | .eql => sEql | .neq => sNeq | .lss => sLss | .leq => sLeq | .gtr => sGtr | .geq => sGeq
  | .sub => sNone | .mul => sNone | .quo => sNone | .rem => sNone | .and => sNone | .or => sNone | .xor => sNone | .andNot => sNone | .shl => sNone | .shr => sNone

/-- functions without a body -/
inductive Ext where
  | nop0 | nopP | cas32 | add32 | mapsClone | indexByteString | unknown
  deriving Inhabited, Repr
/-- functions that read and hand back a value, and of which more is known than their text -/
inductive PF where
  | sumMore
  deriving Inhabited, Repr
/-- what is asked of the program -/
structure Gl where
  ut : TypeId → Option TypeDesc
  inf : TypeId → Option TypeInfo
  fn : FuncId → Option Func
  peq : TypeId → Bool
  ext : FuncId → Option Ext
  mg : FuncId → Bool
  pur : FuncId → Option PF

section
variable (P : Gl)

def isAggT (t : TypeId) : Option Bool :=
  match P.ut t with
  | some (.struct _) | some (.array _ _) => some true
  | some _ => some false
  | none => none
def sizeT (t : TypeId) : Option Nat := match P.inf t with | some i => some i.size | none => none
def zeroT (t : TypeId) : Option SV := match P.inf t with
  | some i => match i.zero with | some v => ofValue 100 v | none => none
  | none => none

def takeL : Nat → List SV → Option (List SV)
  | 0, _ => some []
  | n + 1, v :: r => match takeL n r with | some l => some (v :: l) | none => none
  | _ + 1, [] => none
def partSV (t : TypeId) (cs : List SV) (off : Nat) : Option SV :=
  match isAggT P t with
  | some true => match sizeT P t with
    | some n => match takeL n (cs.drop off) with | some l => some (.agg l) | none => none
    | none => none
  | some false => match cs.drop off with | v :: _ => some v | [] => none
  | none => none

def eqFields (rc : TypeId → SV → SV → Option Bool) : List Field → List SV → List SV → Option Bool
  | [], _, _ => some true
  | f :: fs, xs, ys =>
      if f.name ≠ "_" then
        match partSV P f.type xs f.offset, partSV P f.type ys f.offset with
        | some a, some b => match rc f.type a b with
          | some true => eqFields rc fs xs ys
          | r => r
        | _, _ => none
      else eqFields rc fs xs ys
def eqArr (rc : TypeId → SV → SV → Option Bool) (e : TypeId) (s : Nat) : Nat → Nat → List SV → List SV → Option Bool
  | _, 0, _, _ => some true
  | i, n + 1, xs, ys =>
      match partSV P e xs (i * s), partSV P e ys (i * s) with
      | some a, some b => match rc e a b with
        | some true => eqArr rc e s (i + 1) n xs ys
        | r => r
      | _, _ => none
/-- '==' -/
def eqStep (rc : TypeId → SV → SV → Option Bool) (t : TypeId) (x y : SV) : Option Bool :=
    match P.ut t with
    | some .bool => match x, y with | .bool a, .bool b => some (a == b) | _, _ => none
    | some (.int _) => match x, y with | .int k a, .int k' b => (match kindEq k k' with | true => some (eqF a b) | false => none) | _, _ => none
    | some .string => match x, y with | .str a, .str b => some (bytesEq a b) | _, _ => none
    | some (.pointer _) => match x, y with
      | .nilp, .nilp => some true
      | .nilp, .ptr _ _ => some false
      | .ptr _ _, .nilp => some false
      | _, _ => none
    | some (.interface _) => match x, y with
      | .nili, .nili => some true
      | .nili, .iface _ _ => some false
      | .iface _ _, .nili => some false
      | .iface tx vx, .iface ty vy => match Nat.beq tx ty with
        | false => some false
        | true => match P.inf tx with
          | some i => match i.comparable with | true => rc tx vx vy | false => none
          | none => none
      | _, _ => none
    | some (.struct fs) => match x, y with | .agg xs, .agg ys => (match P.peq t with | false => none | true => eqFields P rc fs.toList xs ys) | _, _ => none
    | some (.array n e) => match x, y, sizeT P e with | .agg xs, .agg ys, some s => eqArr P rc e s 0 n xs ys | _, _, _ => none
    | some (.slice _) => match x, y with
      | .nils, .nils => some true
      | .nils, .slice .. => some false
      | .slice .., .nils => some false
      | _, _ => none
    | some (.map _ _) => match x, y with
      | .map0, .map0 => some true
      | .map0, .map _ => some false
      | .map _, .map0 => some false
      | _, _ => none
    | some (.func _ _ _) => match x, y with
      | .nilf, .nilf => some true
      | .nilf, .func .. => some false
      | .func .., .nilf => some false
      | _, _ => none
    | _ => none
def eqSV : Nat → TypeId → SV → SV → Option Bool
  | 0 => fun _ _ _ => none
  | d + 1 => eqStep P (eqSV d)

def eqlSV (t : TypeId) (x y : SV) : Option SV := match eqSV P 50 t x y with | some b => some (.bool b) | none => none
def neqSV (t : TypeId) (x y : SV) : Option SV := match eqSV P 50 t x y with | some b => some (.bool (not b)) | none => none
def isC : Operand → Bool
  | .const _ => true
  | _ => false
/-- what the model asks ahead of a comparison of two nils, of two structs -/
def eqOk (t : TypeId) (xo yo : Operand) : SV → SV → Bool
  | .nili, .nili => or (isC xo) (isC yo)
  | .agg _, .agg _ => P.peq t
  | _, _ => true
def eqIf (b : Bool) (r : Option SV) : Option SV := match b with | true => r | false => none
def othDo (xo yo : Operand) (op : BinOp) (t : TypeId) (x y : SV) : Option SV := match op with
  | .eql => eqIf (eqOk P t xo yo x y) (eqlSV P t x y)
  | .neq => eqIf (eqOk P t xo yo x y) (neqSV P t x y)
  | _ => none
def binInt (op : BinOp) (k : IntKind) (a : Int) (y : SV) : Option SV := match y with
  | .int k' b => intDo op k k' a b
  | _ => none
def binStr (op : BinOp) (a : List UInt8) (y : SV) : Option SV := match y with
  | .str b => stringF op a b
  | _ => none
def binSV (xo yo : Operand) (op : BinOp) (t : TypeId) (x y : SV) : Option SV :=
  match x with
  | .int k a => binInt op k a y
  | .str a => binStr op a y
  | x => othDo P xo yo op t x y

def unSV (op : UnOp) (x : SV) : Option SV :=
  match op, x with
  | .not, .bool b => some (.bool (!b))
  | .neg, .int k n => some (.int k (wrapF k (Int.sub (.ofNat 0) n)))
  | .xor, .int k n => some (.int k (k.wrap ((BitVec.ofInt k.bits (if k.signed then -1 else k.max)) ^^^ (BitVec.ofInt k.bits n)).toNat))
  | _, _ => none

def bytesOf : List SV → Option (List UInt8)
  | [] => some []
  | .int .u8 (.ofNat n) :: r => match bytesOf r with | some l => some (UInt8.ofNat n :: l) | none => none
  | _ => none
def ofBytes : List UInt8 → List SV
  | [] => []
  | b :: r => .int .u8 (.ofNat b.toNat) :: ofBytes r

/-- conversions that make no memory -/
noncomputable def convSV (src dst : TypeId) (x : SV) (h : AH) : Option SV :=
  match x with
  | .int _ n => match P.ut src, P.ut dst with
    | some _, some (.int k) => some (.int k (wrapF k n))
    | _, _ => none
  | .str s => match P.ut src, P.ut dst with
    | some _, some .string => some (.str s)
    | _, _ => none
  | .ptr b off => match P.ut src, P.ut dst with
    | some (.pointer t), some .unsafePointer => match sizeT P t, h.load1 b off with
      | some (_ + 1), some _ => some (.ptr b off)
      | _, _ => none
    | _, _ => none
  | .slice b off len _ _ _ => match P.ut src, P.ut dst with
    | some (.slice e), some .string => match P.ut e with
      | some (.int .u8) => match h.load b off len with
        | some l => match bytesOf l with | some s => some (.str s) | none => none
        | none => none
      | _ => none
    | _, _ => none
  | .nils => match P.ut src, P.ut dst with
    | some (.slice e), some .string => match P.ut e with
      | some (.int .u8) => some (.str [])
      | _ => none
    | _, _ => none
  | _ => none
/-- of a text bytes -/
noncomputable def convNew (src dst : TypeId) (x : SV) (h : AH) : R1 :=
  match x with
  | .str s => match P.ut src, P.ut dst with
    | some _, some (.slice e) => match P.ut e with
      | some (.int .u8) => some (.slice h.next 0 s.length s.length 1 false, h.newCells e (ofBytes s))
      | _ => none
    | _, _ => none
  | _ => none

def bound (x : SV) (y : Nat) : Option Nat :=
  match x with
  | .int _ (.ofNat i) => match Nat.ble i y with | true => some i | false => none
  | _ => none
def boundO (x : Option SV) (y d : Nat) : Option Nat :=
  match x with
  | none => some d
  | some v => bound v y
noncomputable def arrIn (h : AH) (b end_ : Nat) : Bool := match h.t.get b with
  | some (.cells k) => Nat.ble end_ k.n
  | _ => false
noncomputable def sliceSV (t : TypeId) (x : SV) (lo hi mx : Option SV) (h : AH) : Option SV :=
  match x with
  | .slice b off len cap sz ex => match P.ut t with
    | some (.slice e) => match sizeT P e with
      | some size => match Nat.beq size sz, boundO mx cap cap with
        | true, some m => match boundO hi m len with
          | some h => match boundO lo h 0 with
            | some l =>
              let ex' := match mx with | some _ => true | none => ex
              match Nat.beq m l, ex' with
              | true, true => some (.slice b off (Nat.sub h l) 0 sz true)
              | _, _ => some (.slice b (Nat.add off (Nat.mul l sz)) (Nat.sub h l) (Nat.sub m l) sz ex')
            | none => none
          | none => none
        | _, _ => none
      | none => none
    | _ => none
  | .str s => match P.ut t, mx with
    | some .string, none => match boundO hi s.length s.length with
      | some h => match boundO lo h 0 with
        | some l => some (.str ((s.drop l).take (h - l)))
        | none => none
      | none => none
    | _, _ => none
  | .nils => match P.ut t with
    | some (.slice e) => match sizeT P e, boundO mx 0 0 with
      | some _, some m => match boundO hi m 0 with
        | some h => match boundO lo h 0 with
          | some _ => some .nils
          | none => none
        | none => none
      | _, _ => none
    | _ => none
  | .ptr b off => match P.ut t with
    | some (.array n e) => match sizeT P e with
      | some size => match arrIn h b (Nat.add off (Nat.mul n size)), boundO mx n n with
        | true, some m => match boundO hi m n with
          | some h => match boundO lo h 0 with
            | some l => match Nat.beq m l with
              | true => some (.slice b off (Nat.sub h l) 0 size true)
              | false => some (.slice b (Nat.add off (Nat.mul l size)) (Nat.sub h l) (Nat.sub m l) size true)
            | none => none
          | none => none
        | _, _ => none
      | none => none
    | _ => none
  | _ => none

def fieldAddrSV (s : TypeId) (x : SV) (f : Nat) : Option SV :=
  match x with
  | .ptr b off => match P.ut s with
    | some (.struct fs) => match fs[f]? with
      | some fd => match sizeT P fd.type with
        | some (_ + 1) => some (.ptr b (Nat.add off fd.offset))
        | _ => none
      | none => none
    | _ => none
  | _ => none

def indexAddrSV (t : TypeId) (x ix : SV) : Option SV :=
  match ix with
  | .int _ (.ofNat i) => match x with
    | .slice b off len _ _ _ => match P.ut t with
      | some (.slice e) => match Nat.blt i len, sizeT P e with
        | true, some s => some (.ptr b (Nat.add off (Nat.mul i s)))
        | _, _ => none
      | _ => none
    | .ptr b off => match P.ut t with
      | some (.array n e) => match Nat.blt i n, sizeT P e with
        | true, some s => some (.ptr b (Nat.add off (Nat.mul i s)))
        | _, _ => none
      | _ => none
    | _ => none
  | _ => none

def indexSV (t : TypeId) (x ix : SV) : Option SV :=
  match ix with
  | .int _ (.ofNat i) => match x with
    | .agg cs => match P.ut t with
      | some (.array n e) => match Nat.blt i n, sizeT P e with
        | true, some s => partSV P e cs (Nat.mul i s)
        | _, _ => none
      | _ => none
    | .str s => match P.ut t with
      | some .string => match s.drop i with
        | b :: _ => some (.int .u8 (.ofNat b.toNat))
        | [] => none
      | _ => none
    | _ => none
  | _ => none

/-- keys: integers and strings alone -/
def keyEq : SV → SV → Option Bool
  | .int k a, .int k' b => match kindEq k k' with | true => some (eqF a b) | false => none
  | .str a, .str b => some (bytesEq a b)
  | _, _ => none
def findKey (k : SV) : List (SV × SV × Nat) → Nat → Option (Option (Nat × SV × Nat))
  | [], _ => some none
  | (k', v, s) :: r, i => match keyEq k k' with
    | some true => some (some (i, v, s))
    | some false => findKey k r (i + 1)
    | none => none
/-- the key's type: an integer's or a text's -/
def plainKey (t : TypeId) (k : SV) : Bool :=
  match P.ut t, k with
  | some (.int _), .int _ _ => true
  | some .string, .str _ => true
  | _, _ => false

noncomputable def entriesOf (x : SV) (h : AH) : Option (List (SV × SV × Nat)) :=
  match x with
  | .map0 => some []
  | .map b => match h.t.get b with | some (.map es _) => some es | _ => none
  | _ => none

noncomputable def lookupSV (t : TypeId) (x k : SV) (ok : Bool) (h : AH) : Option SV :=
  match P.ut t with
  | some (.map kt e) => match plainKey P kt k, entriesOf x h with
    | true, some es => match findKey k es 0 with
      | some (some (_, v, _)) => some (match ok with | true => .tup [v, .bool true] | false => v)
      | some none => match zeroT P e with
        | some z => some (match ok with | true => .tup [z, .bool false] | false => z)
        | none => none
      | none => none
    | _, _ => none
  | _ => none

def setNth (l : List (SV × SV × Nat)) (i : Nat) (f : SV × SV × Nat → SV × SV × Nat) : List (SV × SV × Nat) :=
  match l, i with
  | [], _ => []
  | a :: r, 0 => f a :: r
  | a :: r, i + 1 => a :: setNth r i f
def dropNth (l : List (SV × SV × Nat)) (i : Nat) : List (SV × SV × Nat) :=
  match l, i with
  | [], _ => []
  | _ :: r, 0 => r
  | a :: r, i + 1 => a :: dropNth r i

noncomputable def mapUpd (t : TypeId) (x k v : SV) (h : AH) : Option AH :=
  match x with
  | .map b => match P.ut t, h.t.get b with
    | some (.map kt _), some (.map es clock) => match plainKey P kt k with
      | true => match findKey k es 0 with
        | some (some (i, _, _)) => some (h.put b (.map (setNth es i fun (_, _, s) => (k, v, s)) clock))
        | some none => some (h.put b (.map (es ++ [(k, v, clock)]) (Nat.succ clock)))
        | none => none
      | false => none
    | _, _ => none
  | _ => none

noncomputable def mapEnt (t : TypeId) (x k : SV) (h : AH) : R1 :=
  match x with
  | .map b => match P.ut t, h.t.get b with
    | some (.map kt e), some (.map es clock) => match plainKey P kt k with
      | true => match findKey k es 0 with
        | some (some (i, v, s)) => some (.tup [v, i64 s], h.put b (.map (setNth es i fun (_, v, s) => (k, v, s)) clock))
        | some none => match zeroT P e with
          | some z => some (.tup [z, i64 clock], h.put b (.map (es ++ [(k, z, clock)]) (Nat.succ clock)))
          | none => none
        | none => none
      | false => none
    | _, _ => none
  | _ => none
def entryIdx (s : Int) : List (SV × SV × Nat) → Nat → Option Nat
  | [], _ => none
  | (_, _, b) :: r, i => match eqF (.ofNat b) s with | true => some i | false => entryIdx s r (i + 1)
noncomputable def entStore (x s v : SV) (h : AH) : Option AH :=
  match x, s with
  | .map b, .int _ s => match h.t.get b with
    | some (.map es clock) => match entryIdx s es 0 with
      | some i => some (h.put b (.map (setNth es i fun (k, _, s) => (k, v, s)) clock))
      | none => none
    | _ => none
  | _, _ => none
noncomputable def deleteSV (t : TypeId) (m k : SV) (h : AH) : R1 :=
  match m with
  | .map b => match P.ut t, h.t.get b with
    | some (.map kt _), some (.map es clock) => match plainKey P kt k with
      | true => match findKey k es 0 with
        | some (some (i, _, _)) => some (.tup [], h.put b (.map (dropNth es i) clock))
        | some none => some (.tup [], h)
        | none => none
      | false => none
    | _, _ => none
  | .map0 => match P.ut t with
    | some (.map kt _) => match plainKey P kt k with | true => some (.tup [], h) | false => none
    | _ => none
  | _ => none

def typeAssertSV (x : SV) (asserted : TypeId) (ok : Bool) : Option SV :=
  match P.ut asserted with
  | none => none
  | some (.interface want) => match x with
    | .nili => fails
    | .iface t v => match P.inf t with
      | some i => match Instr.missingMethod want i.methods with
        | none => holds (.iface t v)
        | some _ => fails
      | none => none
    | _ => none
  | some _ => match x with
    | .nili => fails
    | .iface t v => match Nat.beq t asserted with | true => holds v | false => fails
    | _ => none
    where
  holds (v : SV) : Option SV := some (match ok with | true => .tup [v, .bool true] | false => v)
  fails : Option SV := match ok with
    | true => match zeroT P asserted with | some z => some (.tup [z, .bool false]) | none => none
    | false => none

noncomputable def placeParts (place : Nat → Option (Nat × Nat)) (n : Nat) : List (Nat × SV) → T SV → Option (T SV)
  | [], t => some t
  | (i, v) :: r, t => match place i with
    | none => none
    | some (off, size) => match Nat.beq v.cells.length size, Nat.ble (Nat.add off size) n with
      | true, true => placeParts place n r (fillT t off v.cells)
      | _, _ => none
def repl (zero : List SV) : Nat → List SV
  | 0 => []
  | k + 1 => zero ++ repl zero k
def fieldPlaces (fs : List Field) (i : Nat) : Option (Nat × Nat) :=
  match fs, i with
  | [], _ => none
  | f :: _, 0 => match sizeT P f.type with | some s => some (f.offset, s) | none => none
  | _ :: r, i + 1 => fieldPlaces r i
def sizesOk : List Field → Bool
  | [] => true
  | f :: r => match sizeT P f.type with | some _ => sizesOk r | none => false

noncomputable def buildSV (t : TypeId) (parts : List (Nat × SV)) : Option SV :=
  match zeroT P t with
  | none => none
  | some z =>
    let zero := z.cells
    let n := zero.length
    match P.ut t with
    | some (.struct fs) => match sizesOk P fs.toList, placeParts (fieldPlaces P fs.toList) n parts (fillT .e 0 zero) with
      | true, some d => match cellsOf d n 0 with | some l => some (.agg l) | none => none
      | _, _ => none
    | some (.array _ e) => match sizeT P e with
      | some s => match placeParts (fun i => some (Nat.mul i s, s)) n parts (fillT .e 0 zero) with
        | some d => match cellsOf d n 0 with | some l => some (.agg l) | none => none
        | none => none
      | none => none
    | _ => none

noncomputable def buildSliceSV (t : TypeId) (len : Nat) (parts : List (Nat × SV)) (h : AH) : R1 :=
  match P.ut t with
  | some (.slice e) => match sizeT P e, zeroT P e with
    | some s, some z => match Nat.beq z.cells.length s, Nat.ble (Nat.mul len s) 16777216, placeParts (fun i => some (Nat.mul i s, s)) (Nat.mul len s) parts (fillT .e 0 (repl z.cells len)) with
      | true, true, some d => match cellsOf d (Nat.mul len s) 0 with
        | some l => some (.slice h.next 0 len len s true, h.newCells e l)
        | none => none
      | _, _, _ => none
    | _, _ => none
  | _ => none

/-- what is appended: its cells, and how many elements -/
noncomputable def appended (e : TypeId) (size : Nat) (x : SV) (h : AH) : Option (List SV × Nat) :=
  match x with
  | .slice b off len _ _ _ => match h.load b off (Nat.mul len size) with | some l => some (l, len) | none => none
  | .nils => some ([], 0)
  | .str l => match Nat.beq size 1 with | true => some (ofBytes l, l.length) | false => none
  | .int _ (.ofNat l) => match Nat.blt l 1073741824, zeroT P e with
    | true, some z => match Nat.beq z.cells.length size with | true => some (repl z.cells l, l) | false => none
    | _, _ => none
  | _ => none

/-- are zeros appended, so many? the type says it, and the value with it -/
def zerosOk (ts : Array TypeId) (x : SV) : Bool := match ts[1]? with
  | none => match x with | .int _ _ => false | _ => true
  | some xt => match P.ut xt with
    | some (.int _) => match x with | .int _ _ => true | _ => false
    | some _ => match x with | .int _ _ => false | _ => true
    | none => false
def roomOk (e : TypeId) (need : Nat) : Bool := match P.inf e with
  | some i => match Nat.ble need 1073741824 with | true => Nat.ble (Nat.mul need i.bytes) 1073741824 | false => false
  | none => false
/-- in place -/
noncomputable def apIn (h : AH) (b off len cap sz : Nat) (ex : Bool) (need : Nat) (new : List SV) : R1 :=
  match h.t.get b with
  | some (.cells k) => match Nat.ble base b, Nat.ble (Nat.add off (Nat.mul len sz)) k.n with
    | true, true => match storeT new (Nat.add off (Nat.mul len sz)) k.d with
      | some d => some (.slice b off need cap sz ex, (h.kill k.grp b (Nat.add off (Nat.mul len sz))).put b (.cells ⟨d, (match Nat.ble k.n (Nat.add off (Nat.mul need sz)) with | true => Nat.add off (Nat.mul need sz) | false => k.n), k.elem, k.grp⟩))
      | none => none
    | _, _ => none
  | _ => none
/-- the capacity is known, and too small -/
noncomputable def apEx (e : TypeId) (h : AH) (b off len sz need : Nat) (new : List SV) : R1 := match h.load b off (Nat.mul len sz) with
  | some old => some (.slice h.next 0 need need sz false, h.newCells e (old ++ new))
  | none => none
noncomputable def apTbl (h : AH) (k : Blk) (b off m : Nat) : Option (T SV) := match off with
  | 0 => some k.d
  | Nat.succ _ => match h.load b off m with | some old => some (fillT .e off old) | none => none
/-- the capacity is not known: the block, or a new one -/
noncomputable def apUn (e : TypeId) (h : AH) (b off len sz need : Nat) (new : List SV) : R1 := match h.t.get b with
  | some (.cells k) => match Nat.ble base b, Nat.beq (Nat.add off (Nat.mul len sz)) k.n with
    | true, true => match apTbl h k b off (Nat.mul len sz) with
      | some t => match storeT new (Nat.add off (Nat.mul len sz)) t with
        | some d => some (.slice h.next off need need sz false, (h.forkG k.grp b).new (.cells ⟨d, Nat.add off (Nat.mul need sz), e, k.grp⟩))
        | none => none
      | none => none
    | _, _ => none
  | _ => none
noncomputable def apSl (e : TypeId) (h : AH) (new : List SV) (n b off len cap sz : Nat) (ex : Bool) : R1 := match Nat.ble (Nat.add len n) cap with
  | true => match n with
    | 0 => some (.slice b off len cap sz ex, h)
    | Nat.succ _ => apIn h b off len cap sz ex (Nat.add len n) new
  | false => match ex with
    | true => apEx e h b off len sz (Nat.add len n) new
    | false => apUn e h b off len sz (Nat.add len n) new
noncomputable def apTo (e : TypeId) (size : Nat) (h : AH) (new : List SV) (n : Nat) : SV → R1
  | .nils => match n with
    | 0 => some (.nils, h)
    | Nat.succ _ => match roomOk P e n with
      | true => some (.slice h.next 0 n n size false, h.newCells e new)
      | false => none
  | .slice b off len cap sz ex => match Nat.beq sz size, roomOk P e (Nat.add len n) with
    | true, true => apSl e h new n b off len cap sz ex
    | _, _ => none
  | _ => none
noncomputable def appendSV (ts : Array TypeId) (st : TypeId) (s x : SV) (h : AH) : R1 :=
  match P.ut st with
  | some (.slice e) => match sizeT P e, zeroT P e with
    | some size, some z => match Nat.beq z.cells.length size, zerosOk P ts x with
      | true, true => match appended P e size x h with
        | none => none
        | some (new, n) => apTo P e size h new n s
      | _, _ => none
    | _, _ => none
  | _ => none

def lenOf : SV → Option Nat
  | .slice _ _ n _ _ _ => some n
  | .nils => some 0
  | .str s => some s.length
  | _ => none
def dstLen : SV → Option Nat
  | .slice _ _ n _ _ _ => some n
  | .nils => some 0
  | _ => none
noncomputable def copied (size n : Nat) (y : SV) (h : AH) : Option (List SV) := match y with
  | .slice b off _ _ _ _ => h.load b off (Nat.mul n size)
  | .str s => some (ofBytes (s.take n))
  | _ => none
noncomputable def copyTo (x : SV) (n : Nat) (h : AH) : Option (List SV) → R1
  | none => none
  | some cs => match x with
    | .slice b off _ _ _ _ => (match h.store b off cs with
      | some h => some (i64 n, h)
      | none => none)
    | _ => none
noncomputable def copyN (size : Nat) (x y : SV) (h : AH) (n : Nat) : R1 := match n with
  | 0 => some (i64 0, h)
  | Nat.succ _ => copyTo x n h (copied size n y h)
def minB (b a : Nat) : Nat := match Nat.ble b a with | true => b | false => a
noncomputable def copySV (dt : TypeId) (x y : SV) (h : AH) : R1 :=
  match P.ut dt with
  | some (.slice e) => match sizeT P e, dstLen x, lenOf y with
    | some size, some a, some b => copyN size x y h (minB b a)
    | _, _, _ => none
  | _ => none

noncomputable def makeSliceSV (t : TypeId) (len cap : SV) (h : AH) : R1 :=
  match P.ut t with
  | some (.slice e) => match len, cap, P.inf e, zeroT P e with
    | .int _ (.ofNat l), .int _ (.ofNat c), some i, some z => match Nat.ble l c, Nat.ble (Nat.mul i.bytes c) 1073741824, Nat.ble c 1073741824, Nat.beq z.cells.length i.size with
      | true, true, true, true => some (.slice h.next 0 l c i.size true, h.newCells e (repl z.cells c))
      | _, _, _, _ => none
    | _, _, _, _ => none
  | _ => none

noncomputable def lenSV (t : TypeId) (x : SV) (h : AH) : Option SV :=
  match P.ut t with
  | some .string => match x with | .str s => some (i64 s.length) | _ => none
  | some (.array n _) => some (i64 n)
  | some (.pointer a) => match P.ut a with | some (.array n _) => some (i64 n) | _ => none
  | some (.slice _) => match x with | .slice _ _ n _ _ _ => some (i64 n) | .nils => some (i64 0) | _ => none
  | some (.map _ _) => match entriesOf x h with | some es => some (i64 es.length) | none => none
  | _ => none
def capSV (t : TypeId) (x : SV) : Option SV :=
  match P.ut t with
  | some (.slice _) => match x with
    | .slice _ _ _ c _ true => some (i64 c)
    | .nils => some (i64 0)
    | _ => none
  | _ => none

def max2 : SV → SV → Option SV
  | .int k x, .int _ y => some (.int k (match ltF x y with | true => y | false => x))
  | _, _ => none
def min2 : SV → SV → Option SV
  | .int k x, .int _ y => some (.int k (match ltF y x with | true => y | false => x))
  | _, _ => none
def foldO (f : SV → SV → Option SV) : SV → List SV → Option SV
  | x, [] => some x
  | x, y :: r => match f x y with | some z => foldO f z r | none => none

/-- what an operation that does something comes to -/
inductive Act where
  | val (v : SV) (h : AH)
  | alts (l : List (SV × AH))
  | call (f : FuncId) (args : List SV) (h : AH)
  | round (l : Nat) (args : List SV)
  | defer (d : ADef)
  | recover
  | panic (v : SV)
  | fail (why : String)
  deriving Inhabited

def ofR (why : String) : R1 → Act
  | some (v, h) => .val v h
  | none => .fail why
def ofH (why : String) : Option AH → Act
  | some h => .val (.tup []) h
  | none => .fail why

def memN (b : Nat) : List Nat → Bool
  | [] => false
  | a :: r => match Nat.beq a b with | true => true | false => memN b r
def filtE (p : Nat → Bool) : List (SV × SV × Nat) → List (SV × SV × Nat)
  | [] => []
  | (k, v, b) :: r => match p b with | true => (k, v, b) :: filtE p r | false => filtE p r

noncomputable def nextSV (it : SV) (isStr : Bool) (h : AH) : Act :=
  match it with
  | .ptr r 0 => match h.t.get r, isStr with
    | some (.mapIter none _ _ _), false => .val (.tup [.bool false]) h
    | some (.mapIter (some m) since seen last), false =>
      match h.t.get m with
      | some (.map es clock) =>
        match !seen.isEmpty && !es.isEmpty && (filtE (fun b => Nat.blt b last) es).isEmpty with
        | true => .fail "next: gone"
        | false =>
          let left := filtE (fun b => !memN b seen) es
          let old := filtE (fun b => Nat.blt b since) left
          let new := filtE (fun b => !Nat.blt b since) left
          .alts ((if old.isEmpty then [(SV.tup [.bool false], h)] else []) ++ (old ++ new).map fun (k, v, b) =>
            (SV.tup [.bool true, k, v], h.put r (.mapIter (some m) since (seen ++ [b]) clock)))
      | _ => .fail "next: map"
    | some (.strIter s pos), true =>
      match s.drop pos with
      | [] => .val (.tup [.bool false]) h
      | c :: _ => match Nat.blt c.toNat 128 with
        | true => .val (.tup [.bool true, i64 pos, .int .i32 (.ofNat c.toNat)]) (h.put r (.strIter s (Nat.succ pos)))
        | false => .fail "next: utf8"
    | _, _ => .fail "next"
  | _ => .fail "next"

def findE (s : Nat) : List (SV × SV × Nat) → Option (SV × SV)
  | [] => none
  | (k, v, b) :: r => match Nat.beq b s with | true => some (k, v) | false => findE s r
noncomputable def entrySV (it : SV) (h : AH) : Option SV :=
  match it with
  | .ptr r 0 => match h.t.get r with
    | some (.mapIter (some m) _ seen stepped) => match seen.getLast?, h.t.get m with
      | some s, some (.map es clock) => match Nat.beq clock stepped, findE s es with
        | true, some (k, v) => some (.tup [k, v])
        | _, _ => none
      | _, _ => none
    | _ => none
  | _ => none

noncomputable def followSV : List FieldStep → TypeId → SV → AH → Option (TypeId × SV)
  | [], t, v, _ => some (t, v)
  | s :: rest, _, v, h => match P.ut s.struct with
    | some (.struct fs) => match fs[s.index]? with
      | some f => match s.deref with
        | true => match v, isAggT P f.type, sizeT P f.type with
          | .ptr b off, some false, some 1 => match rest, h.load1 b (Nat.add off f.offset) with      -- the last step: the value is read
            | [], some x => some (f.type, x)
            | _, _ => none
          | _, _, _ => none
        | false => match v with
          | .agg cs => match partSV P f.type cs f.offset with | some x => followSV rest f.type x h | none => none
          | _ => none
      | none => none
    | _ => none

def findMethod (name : String) : List Method → Option Method
  | [] => none
  | m :: r => if m.name == name then some m else findMethod name r
/-- a method of an interface's value -/
noncomputable def methodSV : Nat → TypeId → SV → String → AH → Option (FuncId × SV)
  | 0, _, _, _, _ => none
  | fu + 1, t, v, name, h => match P.inf t with
    | none => none
    | some i => match findMethod name i.methods.toList with
      | none => none
      | some m => match followSV P m.path.toList t v h with
        | none => none
        | some (xt, x) => match m.func with
          | none => match x with
            | .iface t' v' => methodSV fu t' v' name h
            | _ => none
          | some (f, ptrRecv) => match P.ut xt, ptrRecv with
            | some (.pointer _), true => some (f, x)
            | some (.pointer e), false => match x, isAggT P e, sizeT P e with
              | .ptr b off, some true, some n => match h.load b off n with | some l => some (f, .agg l) | none => none
              | .ptr b off, some false, _ => match h.load1 b off with | some y => some (f, y) | none => none
              | _, _, _ => none
            | some _, false => some (f, x)
            | _, _ => none

def idxByte (c : Nat) : List UInt8 → Nat → Int
  | [], _ => -1
  | b :: r, i => match Nat.beq b.toNat c with | true => .ofNat i | false => idxByte c r (Nat.succ i)
noncomputable def xNopP (args : List SV) (h : AH) : Act := match args with
  | .ptr _ _ :: _ => .val (.tup []) h
  | _ => .fail "race"
noncomputable def xCas2 (b off : Nat) (old : Int) (kn : IntKind) (new : Int) (h : AH) : Option SV → Act
  | some (.int .i32 n) => match eqF n old with
    | true => (match h.store b off [.int kn new] with | some h => .val (.bool true) h | none => .fail "cas")
    | false => .val (.bool false) h
  | _ => .fail "cas"
noncomputable def xCas (args : List SV) (h : AH) : Act := match args with
  | [.ptr b off, .int _ old, .int kn new] => (match Nat.ble base b with
    | true => xCas2 b off old kn new h (h.load1 b off)
    | false => .fail "cas")
  | _ => .fail "cas"
noncomputable def xAdd2 (b off : Nat) (d : Int) (h : AH) : Option SV → Act
  | some (.int .i32 n) => (match h.store b off [.int .i32 (wrapF .i32 (Int.add n d))] with
    | some h => .val (.int .i32 (wrapF .i32 (Int.add n d))) h
    | none => .fail "add")
  | _ => .fail "add"
noncomputable def xAdd (args : List SV) (h : AH) : Act := match args with
  | [.ptr b off, .int _ d] => xAdd2 b off d h (h.load1 b off)
  | _ => .fail "add"
noncomputable def xClone (args : List SV) (h : AH) : Act := match args with
  | [.iface t (.map b)] => (match h.t.get b with
    | some (.map es clock) => .val (.iface t (.map h.next)) (h.new (.map es clock))
    | _ => .fail "maps.clone")
  | _ => .fail "maps.clone"
noncomputable def xIdx (args : List SV) (h : AH) : Act := match args with
  | [.str s, .int .u8 (.ofNat c)] => (match Nat.blt c 256 with
    | true => .val (.int .i64 (idxByte c s 0)) h
    | false => .fail "IndexByteString")
  | _ => .fail "IndexByteString"
noncomputable def externSV (x : Ext) (args : List SV) (h : AH) : Act :=
  match x with
  | .nop0 => .val (.tup []) h
  | .nopP => xNopP args h
  | .cas32 => xCas args h
  | .add32 => xAdd args h
  | .mapsClone => xClone args h
  | .indexByteString => xIdx args h
  | .unknown => .fail "extern"

noncomputable def callF (f : FuncId) (args : List SV) (h : AH) : Act :=
  match P.ext f with
  | some x => externSV x args h
  | none => .call f args h

noncomputable def invokeF (fn : Fn) (cap args : List SV) (h : AH) : Act :=
  match fn with
  | .func f => callF P f (args ++ cap) h
  | .method name => match args with
    | .iface t v :: rest => match methodSV P 20 t v name h with
      | some (f, r) => callF P f (r :: rest) h
      | none => .fail "method"
    | _ => .fail "method of nil"
  | .methodOf t name => match P.ut t, args with
    | some (.interface _), .iface t v :: rest => match methodSV P 20 t v name h with
      | some (f, r) => callF P f (r :: rest) h
      | none => .fail "methodOf"
    | some (.interface _), _ => .fail "methodOf"
    | some _, v :: rest => match methodSV P 20 t v name h with
      | some (f, r) => callF P f (r :: rest) h
      | none => .fail "methodOf"
    | _, _ => .fail "methodOf"
  | .yield l => .round l args
  | .via .. => .fail "via"

noncomputable def eTmp (t : Tmp) (tm : T SV) : Option SV := tm.get t
def eConst (v : Value) (_ : T SV) : Option SV := ofValue 100 v
def eGlob (g : Nat) (_ : T SV) : Option SV := match Nat.blt g base with | true => some (.ptr g 0) | false => none
def eFunc (f : FuncId) (_ : T SV) : Option SV := some (.func (.func f) [] [])
noncomputable def evalQ (o : Operand) : T SV → Option SV := match o with
  | .tmp t => eTmp t
  | .const v => eConst v
  | .global g => eGlob g
  | .func f => eFunc f
noncomputable def evalO (tm : T SV) (o : Operand) : Option SV := evalQ o tm
noncomputable def evalL (tm : T SV) : List Operand → Option (List SV)
  | [] => some []
  | x :: r => match evalO tm x, evalL tm r with
    | some v, some l => some (v :: l)
    | _, _ => none
noncomputable def evalP (tm : T SV) : List (Nat × Operand) → Option (List (Nat × SV))
  | [] => some []
  | (i, x) :: r => match evalO tm x, evalP tm r with
    | some v, some l => some ((i, v) :: l)
    | _, _ => none

/-- does it more than hand back a value? -/
def isEff (o : Op) : Bool :=
  match o with
  | .move _ | .assign _ | .pick .. | .build .. | .load .. | .nilCheck _ | .binOp .. | .unOp .. | .makeInterface .. | .makeFunc ..
  | .slice .. | .fieldAddr .. | .field .. | .indexAddr .. | .index .. | .lookup .. | .entry _ | .typeAssert .. | .extract .. => false
  | .convert _ dst _ => match P.ut dst with | some (.slice _) => true | _ => false
  | .call c => match c.callee with
    | .builtin .len | .builtin .cap | .builtin .max | .builtin .min => false
    | _ => true
  | _ => true
def isStrT : Option TypeDesc → Bool
  | some .string => true
  | _ => false
/-- does it make one block, and no more? -/
def isNew (o : Op) : Bool :=
  match o with
  | .alloc _ | .box .. | .buildSlice .. | .makeMap .. | .makeSlice .. => true
  | .convert src dst _ => match P.ut dst with | some (.slice _) => isStrT (P.ut src) | _ => false
  | _ => false
/-- does its value hang on the heap? -/
def isRead (o : Op) : Bool :=
  match o with
  | .load .. | .lookup .. | .entry _ => true
  | .slice t _ _ _ _ => match P.ut t with | some (.array _ _) => true | _ => false
  | .convert _ dst _ => match P.ut dst with | some .string | some .unsafePointer => true | _ => false
  | .call c => match c.callee with
    | .builtin .len => true
    | _ => false
  | _ => false

/-- the value of an operation that does no more -/
noncomputable def nMove (x : Operand) (tm : T SV) (_ : AH) : Option SV := evalQ x tm
noncomputable def nPick (c a b : Operand) (tm : T SV) (_ : AH) : Option SV := match evalQ c tm with
  | some (.bool true) => evalQ a tm
  | some (.bool false) => evalQ b tm
  | _ => none
noncomputable def nBuild (t : TypeId) (ps : Array (Nat × Operand)) (tm : T SV) (_ : AH) : Option SV := match evalP tm ps.toList with
  | some l => buildSV P t l
  | none => none
noncomputable def ldAgg (b off : Nat) (h : AH) : Option Nat → Option SV
  | some n => match h.load b off n with | some l => some (.agg l) | none => none
  | none => none
noncomputable def ldAt (t : TypeId) (b off : Nat) (h : AH) : Option SV := match isAggT P t with
  | some false => h.load1 b off
  | some true => ldAgg b off h (sizeT P t)
  | none => none
noncomputable def nLoad (t : TypeId) (a : Operand) (tm : T SV) (h : AH) : Option SV := match evalQ a tm with
  | some (.ptr b off) => ldAt P t b off h
  | _ => none
def nilOk (v : SV) : Option SV := match v with
  | .nilp | .nili | .nilf => none
  | .func (.method _) _ _ => none
  | v => some v
noncomputable def nNil (x : Operand) (tm : T SV) (_ : AH) : Option SV := match evalQ x tm with
  | some v => nilOk v
  | none => none
noncomputable def nBin (op : BinOp) (t : TypeId) (x y : Operand) (tm : T SV) (_ : AH) : Option SV := match evalQ x tm with
  | some a => match evalQ y tm with
    | some b => binSV P x y op t a b
    | none => none
  | none => none
noncomputable def nUn (op : UnOp) (x : Operand) (tm : T SV) (_ : AH) : Option SV := match evalQ x tm with
  | some a => unSV op a
  | none => none
noncomputable def nConv (s d : TypeId) (x : Operand) (tm : T SV) (h : AH) : Option SV := match evalQ x tm with
  | some v => convSV P s d v h
  | none => none
def mkIface (t : TypeId) (v : SV) : Option SV := match P.ut t with
  | some (.interface _) => none
  | some _ => some (.iface t v)
  | none => none
noncomputable def nMkI (t : TypeId) (x : Operand) (tm : T SV) (_ : AH) : Option SV := match evalQ x tm with
  | some v => mkIface P t v
  | none => none
noncomputable def mkFn (fn : Fn) (first cap : Array Operand) (tm : T SV) : Option SV := match evalL tm first.toList with
  | some a => match evalL tm cap.toList with
    | some b => some (.func fn a b)
    | none => none
  | none => none
noncomputable def nMkF (fn : Fn) (first cap : Array Operand) (tm : T SV) (_ : AH) : Option SV := match fn with
  | .yield _ => none
  | fn => mkFn fn first cap tm
noncomputable def optO (tm : T SV) : Option Operand → Option (Option SV)
  | none => some none
  | some x => match evalQ x tm with | some v => some (some v) | none => none
def mxOk (hi mx : Option SV) : Bool := match mx with
  | none => true
  | some _ => match hi with | some _ => true | none => false
noncomputable def nSlice (t : TypeId) (x : Operand) (lo hi mx : Option Operand) (tm : T SV) (h : AH) : Option SV := match evalQ x tm with
  | none => none
  | some v => match optO tm lo with
    | none => none
    | some lo => match optO tm hi with
      | none => none
      | some hi => match optO tm mx with
        | none => none
        | some mx => match mxOk hi mx with
          | true => sliceSV P t v lo hi mx h
          | false => none
noncomputable def nFAddr (s : TypeId) (x : Operand) (f : Nat) (tm : T SV) (_ : AH) : Option SV := match evalQ x tm with
  | some v => fieldAddrSV P s v f
  | none => none
def fieldSV (t : TypeId) (f : Nat) (cs : List SV) : Option SV := match P.ut t with
  | some (.struct fs) => match fs[f]? with
    | some fd => partSV P fd.type cs fd.offset
    | none => none
  | _ => none
noncomputable def nField (t : TypeId) (x : Operand) (f : Nat) (tm : T SV) (_ : AH) : Option SV := match evalQ x tm with
  | some (.agg cs) => fieldSV P t f cs
  | _ => none
noncomputable def nIAddr (t : TypeId) (x ix : Operand) (tm : T SV) (_ : AH) : Option SV := match evalQ x tm with
  | some a => match evalQ ix tm with
    | some b => indexAddrSV P t a b
    | none => none
  | none => none
noncomputable def nIndex (t : TypeId) (x ix : Operand) (tm : T SV) (_ : AH) : Option SV := match evalQ x tm with
  | some a => match evalQ ix tm with
    | some b => indexSV P t a b
    | none => none
  | none => none
noncomputable def nLook (t : TypeId) (x k : Operand) (ok : Bool) (tm : T SV) (h : AH) : Option SV := match evalQ x tm with
  | some a => match evalQ k tm with
    | some b => lookupSV P t a b ok h
    | none => none
  | none => none
noncomputable def nEntry (it : Operand) (tm : T SV) (h : AH) : Option SV := match evalQ it tm with
  | some v => entrySV v h
  | none => none
noncomputable def nTA (x : Operand) (asserted : TypeId) (ok : Bool) (tm : T SV) (_ : AH) : Option SV := match evalQ x tm with
  | some v => typeAssertSV P v asserted ok
  | none => none
noncomputable def nExt (t : Operand) (ix : Nat) (tm : T SV) (_ : AH) : Option SV := match evalQ t tm with
  | some (.tup l) => l[ix]?
  | _ => none
noncomputable def nCallB (b : Builtin) (ts : Array TypeId) (args : List SV) (h : AH) : Option SV := match b, ts[0]?, args with
  | .len, some t, [x] => lenSV P t x h
  | .cap, some t, [x] => capSV P t x
  | .max, _, x :: r => foldO max2 x r
  | .min, _, x :: r => foldO min2 x r
  | _, _, _ => none
noncomputable def nCall (c : Call) (tm : T SV) (h : AH) : Option SV := match c.callee with
  | .builtin b => match evalL tm c.args.toList with
    | some args => nCallB P b c.argTypes args h
    | none => none
  | _ => none
def nNone (_ : T SV) (_ : AH) : Option SV := none
noncomputable def opN (o : Op) : T SV → AH → Option SV :=
  match o with
  | .move x => nMove x
  | .assign x => nMove x
  | .pick c a b => nPick c a b
  | .build t ps => nBuild P t ps
  | .load t a => nLoad P t a
  | .nilCheck x => nNil x
  | .binOp op t x y _ => nBin P op t x y
  | .unOp op _ x => nUn op x
  | .convert s d x => nConv P s d x
  | .makeInterface t x => nMkI P t x
  | .makeFunc fn first cap => nMkF fn first cap
  | .slice t x lo hi mx => nSlice P t x lo hi mx
  | .fieldAddr s x f => nFAddr P s x f
  | .field t x f => nField P t x f
  | .indexAddr t x ix => nIAddr P t x ix
  | .index t x ix => nIndex P t x ix
  | .lookup t x k ok => nLook P t x k ok
  | .entry it => nEntry it
  | .typeAssert x _ asserted ok => nTA P x asserted ok
  | .extract t ix => nExt t ix
  | .call c => nCall P c
  | _ => nNone

noncomputable def callB (b : Builtin) (ts : Array TypeId) (args : List SV) (h : AH) : Act := match b, ts[0]?, args with
  | .append, some t, [s, x] => ofR "append" (appendSV P ts t s x h)
  | .copy, some t, [x, y] => ofR "copy" (copySV P t x y h)
  | .delete, some t, [m, k] => ofR "delete" (deleteSV P t m k h)
  | .recover, _, _ => .recover
  | .panic, _, [.iface t v] => .panic (.iface t v)
  | _, _, _ => .fail "builtin"
noncomputable def callV (args : List SV) (h : AH) : Option SV → Act
  | some (.func fn first cap) => invokeF P fn cap (first ++ args) h
  | _ => .fail "call: a function value"
noncomputable def callI (name : String) (args : List SV) (h : AH) : Option SV → Act
  | some x => invokeF P (.method name) [] (x :: args) h
  | none => .fail "invoke"
noncomputable def callO (tm : T SV) (c : Call) (args : List SV) (h : AH) : Act := match c.callee with
  | .builtin b => callB P b c.argTypes args h
  | .invoke r name => callI P name args h (evalQ r tm)
  | .value f => callV P args h (evalQ f tm)
noncomputable def eCall (c : Call) (tm : T SV) (h : AH) : Act := match evalL tm c.args.toList with
  | none => .fail "call: an argument"
  | some args => callO P tm c args h

noncomputable def deferO (tm : T SV) (c : Call) : Option ADef :=
  match evalL tm c.args.toList with
  | none => none
  | some args => match c.callee with
    | .value f => match evalQ f tm with
      | some (.func fn first cap) => some ⟨.fn fn cap, first ++ args⟩
      | _ => none
    | _ => none

/-- an operation that does something -/
noncomputable def eAlloc (e : TypeId) (_ : T SV) (h : AH) : Act := match zeroT P e with
  | some z => .val (.ptr h.next 0) (h.newCells e z.cells)
  | none => .fail "alloc"
noncomputable def eBox (e : TypeId) (x : Operand) (tm : T SV) (h : AH) : Act := match evalQ x tm with
  | some v => .val (.ptr h.next 0) (h.newCells e v.cells)
  | none => .fail "box"
noncomputable def eBSl (t : TypeId) (n : Nat) (ps : Array (Nat × Operand)) (tm : T SV) (h : AH) : Act := match evalP tm ps.toList with
  | some l => ofR "buildSlice" (buildSliceSV P t n l h)
  | none => .fail "buildSlice"
noncomputable def stAt (t : TypeId) (b off : Nat) (v : SV) (h : AH) : Act := match sizeT P t with
  | some n => match Nat.beq v.cells.length n with
    | true => ofH "store" (h.store b off v.cells)
    | false => .fail "store: size"
  | none => .fail "store"
noncomputable def eStore (t : TypeId) (a x : Operand) (tm : T SV) (h : AH) : Act := match evalQ a tm with
  | some (.ptr b off) => match evalQ x tm with
    | some v => stAt P t b off v h
    | none => .fail "store: value"
  | _ => .fail "store: address"
/-- of bytes bytes: the row is marked, beyond its cells -/
noncomputable def convSl (s d : TypeId) (x : SV) (h : AH) : Act := match x with
  | .slice b off len cap sz ex => match P.ut d with
    | some (.slice e) => match P.ut e with
      | some (.int .u8) => match Nat.beq s d, Nat.blt 0 len, Nat.ble base b, h.t.get b with
        | true, true, true, some (.cells _) => .val (.slice b off len cap sz ex) h
        | _, _, _, _ => .fail "convert: a slice"
      | _ => .fail "convert: a slice"
    | _ => .fail "convert: a slice"
  | _ => .fail "convert: a slice"
noncomputable def convT (s d : TypeId) (x : SV) (h : AH) : Option TypeDesc → Act
  | some .string => ofR "convert" (convNew P s d x h)
  | some (.slice _) => convSl P s d x h
  | _ => .fail "convert"
noncomputable def eConv (s d : TypeId) (x : Operand) (tm : T SV) (h : AH) : Act := match evalQ x tm with
  | some v => convT P s d v h (P.ut s)
  | none => .fail "convert"
noncomputable def newMap (h : AH) : Act := .val (.map h.next) (h.new (.map [] 0))
noncomputable def eMkM (t : TypeId) (r : Option Operand) (tm : T SV) (h : AH) : Act := match r with
  | none => newMap h
  | some r => match P.ut t, evalQ r tm with
    | some (.map _ _), some (.int _ _) => newMap h
    | _, _ => .fail "makeMap"
noncomputable def eMkS (t : TypeId) (l c : Operand) (tm : T SV) (h : AH) : Act := match evalQ l tm with
  | some l => match evalQ c tm with
    | some c => ofR "makeSlice" (makeSliceSV P t l c h)
    | none => .fail "makeSlice"
  | none => .fail "makeSlice"
noncomputable def eMup (t : TypeId) (m k x : Operand) (tm : T SV) (h : AH) : Act := match evalQ m tm with
  | some m => match evalQ k tm with
    | some k => match evalQ x tm with
      | some x => ofH "mapUpdate" (mapUpd P t m k x h)
      | none => .fail "mapUpdate"
    | none => .fail "mapUpdate"
  | none => .fail "mapUpdate"
noncomputable def eMent (t : TypeId) (m k : Operand) (tm : T SV) (h : AH) : Act := match evalQ m tm with
  | some m => match evalQ k tm with
    | some k => ofR "mapEntry" (mapEnt P t m k h)
    | none => .fail "mapEntry"
  | none => .fail "mapEntry"
noncomputable def eEst (m s x : Operand) (tm : T SV) (h : AH) : Act := match evalQ m tm with
  | some m => match evalQ s tm with
    | some s => match evalQ x tm with
      | some x => ofH "entryStore" (entStore m s x h)
      | none => .fail "entryStore"
    | none => .fail "entryStore"
  | none => .fail "entryStore"
noncomputable def rangeM (m : Nat) (h : AH) : Act := match h.t.get m with
  | some (.map _ clock) => .val (.ptr h.next 0) (h.new (.mapIter (some m) clock [] clock))
  | _ => .fail "range"
noncomputable def eRange (t : TypeId) (x : Operand) (tm : T SV) (h : AH) : Act := match P.ut t, evalQ x tm with
  | some .string, some (.str s) => .val (.ptr h.next 0) (h.new (.strIter s 0))
  | some (.map _ _), some .map0 => .val (.ptr h.next 0) (h.new (.mapIter none 0 [] 0))
  | some (.map _ _), some (.map m) => rangeM m h
  | _, _ => .fail "range"
noncomputable def eNext (it : Operand) (s : Bool) (tm : T SV) (h : AH) : Act := match evalQ it tm with
  | some v => nextSV v s h
  | none => .fail "next"
noncomputable def eDefer (c : Call) (tm : T SV) (_ : AH) : Act := match deferO tm c with
  | some d => .defer d
  | none => .fail "defer"
noncomputable def ePanic (x : Operand) (tm : T SV) (_ : AH) : Act := match evalQ x tm with
  | some (.iface t v) => .panic (.iface t v)
  | _ => .fail "panic"
def eNone (_ : T SV) (_ : AH) : Act := .fail "op"
noncomputable def opE (o : Op) : T SV → AH → Act :=
  match o with
  | .alloc e => eAlloc P e
  | .box e x => eBox e x
  | .buildSlice t n ps => eBSl P t n ps
  | .store t a x => eStore P t a x
  | .convert s d x => eConv P s d x
  | .makeMap t r => eMkM P t r
  | .makeSlice t l c => eMkS P t l c
  | .mapUpdate t m k x => eMup P t m k x
  | .insert t m k x => eMup P t m k x
  | .mapEntry t m k => eMent P t m k
  | .entryStore _ m s x => eEst m s x
  | .range t x => eRange P t x
  | .next it s => eNext it s
  | .call c => eCall P c
  | .defer c => eDefer c
  | .panic x => ePanic x
  | _ => eNone

/-! ### a region: in which order its operations are carried out -/
/-- a value of the operands alone; of the heap too; a new block; anything else -/
inductive Cls where
  | n | r | a | e
  deriving Inhabited, DecidableEq
structure RI where
  i : Nat
  o : Oper
  g : Option (Option Tmp × Bool)     -- the guard: whose result
  pre : Nat                          -- what is surely behind it: bits
  cl : Cls
  deriving Inhabited

def nthN : List Nat → Nat → Nat
  | [], _ => 0
  | a :: _, 0 => a
  | _ :: r, i + 1 => nthN r i
/-- what comes surely ahead of an operation: of those before it the masks are known (the last one first) -/
def maskOf (n : Nat) (ms : List Nat) : List Edge → Option Nat
  | [] => some 0
  | e :: r => match maskOf n ms r with
    | none => none
    | some m => match Region.binds .any e with
      | false => some m
      | true => match Nat.blt e.on n with
        | false => none
        | true => some (Nat.lor m (Nat.lor (Nat.pow 2 e.on) (nthN ms (Nat.sub (Nat.sub n 1) e.on))))
def dstAt : List Oper → Option Tmp
  | p :: _ => p.dst
  | [] => none
def guardOf (ops : List Oper) (o : Oper) : Option (Option Tmp × Bool) :=
  match o.guard with
  | none => none
  | some (j, want) => some (dstAt (ops.drop j), want)
def clsOf (o : Op) : Cls := match isNew P o with
  | true => .a
  | false => match isEff P o with
    | true => .e
    | false => match isRead P o with | true => .r | false => .n
def risOf (all : List Oper) : Nat → List Nat → List Oper → Option (List RI)
  | _, _, [] => some []
  | n, ms, o :: r => match maskOf n ms o.after.toList with
    | none => none
    | some m => match risOf all (Nat.succ n) (m :: ms) r with
      | none => none
      | some l => some (⟨n, o, guardOf all o, m, clsOf P o.op⟩ :: l)
def plainRis (all : List Oper) : Nat → List Oper → List RI
  | _, [] => []
  | n, o :: r => ⟨n, o, guardOf all o, 0, (match isEff P o.op with | true => .e | false => .n)⟩ :: plainRis all (Nat.succ n) r
def effsOf : List RI → List RI
  | [] => []
  | x :: r => match x.cl with | .e => x :: effsOf r | _ => effsOf r
def chainOk : List RI → Bool
  | a :: b :: r => match Nat.testBit b.pre a.i with | true => chainOk (b :: r) | false => false
  | _ => true
/-- how many of the effects come ahead of it -/
def levelOf (pre : Nat) : List RI → Nat
  | [] => 0
  | e :: r => match Nat.testBit pre e.i with | true => Nat.succ (levelOf pre r) | false => 0
def atLevel (es : List RI) (k : Nat) : List RI → List RI
  | [] => []
  | x :: r => match x.cl with
    | .e => atLevel es k r
    | _ => match Nat.beq (levelOf x.pre es) k with
      | true => x :: atLevel es k r
      | false => atLevel es k r
def phases (es all : List RI) : Nat → List RI → List RI
  | k, [] => atLevel es k all
  | k, e :: r => atLevel es k all ++ e :: phases es all (Nat.succ k) r
def usesO : Operand → Tmp → Bool
  | .tmp t, d => Nat.beq t d
  | _, _ => false
def usesL (d : Tmp) : List Operand → Bool
  | [] => false
  | x :: r => match usesO x d with | true => true | false => usesL d r
def usesOp (d : Tmp) (x : RI) : Bool :=
  match usesL d x.o.op.operands.toList with
  | true => true
  | false => match x.g with
    | some (some t, _) => Nat.beq t d
    | _ => false
/-- two operations, a ahead of b by their numbers: no two write one place; who looks at it and who writes it have an order -/
def pairOk (a b : RI) : Bool :=
  match Nat.testBit b.pre a.i with
  | true => match a.o.dst, b.o.dst with
    | some d, some e => !Nat.beq d e
    | _, _ => true
  | false => match a.o.dst with
    | some d => (match usesOp d b with | true => false | false => match b.o.dst with
      | some e => !Nat.beq d e && !usesOp e a
      | none => true)
    | none => match b.o.dst with
      | some e => !usesOp e a
      | none => true
def pairsOk (a : RI) : List RI → Bool
  | [] => true
  | b :: r => match pairOk a b with | true => pairsOk a r | false => false
def allPairs : List RI → Bool
  | [] => true
  | a :: r => match pairsOk a r with | true => allPairs r | false => false
/-- an order in which every one comes once, behind those that are surely ahead of it, and behind each effect only what is surely behind it. acc: who was; eff: which effects -/
def ordOk (full : Nat) : List RI → Nat → Nat → Bool
  | [], acc, _ => Nat.beq acc full
  | x :: r, acc, eff => match Nat.testBit acc x.i with
    | true => false
    | false => match Nat.beq (Nat.land x.pre acc) x.pre, Nat.beq (Nat.land x.pre eff) eff with
      | true, true => ordOk full r (Nat.lor acc (Nat.pow 2 x.i)) (match x.cl with | .e => Nat.lor eff (Nat.pow 2 x.i) | _ => eff)
      | _, _ => false
def creg2 (all l : List RI) : Option (List RI) := match ordOk (Nat.sub (Nat.pow 2 all.length) 1) l 0 0, allPairs all with
  | true, true => some l
  | _, _ => none
def creg (ops : Array Oper) (draw : Bool) : Option (List RI) :=
  match draw with
  | false => some (plainRis P ops.toList 0 ops.toList)
  | true => match risOf P ops.toList 0 [] ops.toList with
    | none => none
    | some all => creg2 all (phases (effsOf all) all 0 (effsOf all))

def exitToA (id : Nat) : List AItem → Option (List AItem)
  | .inBlock id' :: k => match Nat.beq id' id with | true => some k | false => exitToA id k
  | _ :: k => exitToA id k
  | [] => none

/-- what of a frame stays -/
structure FC where
  fn : FuncId
  nt : Nat
  kind : CallKind
  round : Option Nat
  deriving Inhabited
def maxN (a b : Nat) : Nat := match Nat.ble a b with | true => b | false => a
noncomputable def wantedA (tm : T SV) : Option (Option Tmp × Bool) → Option Bool
  | none => some true
  | some (some t, want) => match tm.get t with
    | some (.bool b) => some (match b, want with | true, true => true | false, false => true | _, _ => false)
    | some _ => some false
    | none => none
  | some (none, _) => some false
noncomputable def setDst (nt : Nat) (tm : T SV) (d : Option Tmp) (v : SV) : Option (T SV) :=
  match d with
  | none => some tm
  | some d => match Nat.blt d nt with
    | true => some (tm.set d v)
    | false => none

noncomputable def res1 (tm : T SV) (h : AH) : ResultVar → Option SV
  | .tmp t => tm.get t
  | .cell a t => match tm.get a with
    | some (.ptr b off) => ldAt P t b off h
    | _ => none
noncomputable def resultsA (tm : T SV) (h : AH) : List ResultVar → Option (List SV)
  | [] => some []
  | r :: rest => match res1 P tm h r, resultsA tm h rest with
    | some v, some l => some (v :: l)
    | _, _ => none
noncomputable def resultA (fn : Func) (tm : T SV) (h : AH) : Option SV :=
  match resultsA P tm h fn.results.toList with
  | some [v] => some v
  | some l => some (.tup l)
  | none => none

/-- what a frame comes to: the outcome, the heap, the caller's panics (of a deferred call) -/
abbrev Fin1 := Out × AH × Option (List APan)
abbrev M := Except String (List Fin1)

def recoverA : Option (List APan) → SV × Option (List APan)
  | some (⟨v, false⟩ :: older) => (v, some (⟨v, true⟩ :: older))
  | o => (.nili, o)

/-- behind a deferred call: what becomes of the caller's mode -/
def afterCp : Option (List APan) → AMode
  | none => .returning
  | some (⟨_, true⟩ :: _) => .returning
  | some c => .panicking c

mutual
def SV.beq : SV → SV → Bool
  | .bool a, .bool b => a == b
  | .int k n, .int k' n' => kindEq k k' && eqF n n'
  | .str a, .str b => bytesEq a b
  | .nilp, .nilp => true
  | .ptr a b, .ptr c d => Nat.beq a c && Nat.beq b d
  | .nils, .nils => true
  | .slice a b c d s e, .slice a' b' c' d' s' e' => Nat.beq a a' && Nat.beq b b' && Nat.beq c c' && Nat.beq d d' && Nat.beq s s' && (e == e')
  | .map0, .map0 => true
  | .map a, .map b => Nat.beq a b
  | .func f a b, .func g c d => decide (f = g) && SV.beqL a c && SV.beqL b d
  | .nilf, .nilf => true
  | .iface t v, .iface u w => Nat.beq t u && SV.beq v w
  | .nili, .nili => true
  | .agg a, .agg b => SV.beqL a b
  | .tup a, .tup b => SV.beqL a b
  | _, _ => false
def SV.beqL : List SV → List SV → Bool
  | [], [] => true
  | a :: r, b :: s => SV.beq a b && SV.beqL r s
  | _, _ => false
end
def optBeq : Option SV → Option SV → Bool
  | none, none => true
  | some a, some b => SV.beq a b
  | _, _ => false
def T.beqT : T SV → T SV → Bool
  | .e, .e => true
  | .n u a b c d, .n v p q r s => optBeq u v && T.beqT a p && T.beqT b q && T.beqT c r && T.beqT d s
  | _, _ => false
def entBeq : List (SV × SV × Nat) → List (SV × SV × Nat) → Bool
  | [], [] => true
  | (a, b, c) :: r, (x, y, z) :: s => SV.beq a x && SV.beq b y && Nat.beq c z && entBeq r s
  | _, _ => false
def AObj.beq : AObj → AObj → Bool
  | .cells a, .cells b => Nat.beq a.n b.n && Nat.beq a.elem b.elem && Nat.beq a.grp b.grp && a.d.beqT b.d
  | .map a c, .map b d => Nat.beq c d && entBeq a b
  | _, _ => false
noncomputable def allSame (b : Nat) (o : AObj) : List Fin1 → Bool
  | [] => true
  | (_, h, _) :: r => (match h.t.get b with | some x => o.beq x | none => false) && allSame b o r
def outBeq : Out → Out → Bool
  | .ret a, .ret b => SV.beq a b
  | _, _ => false
noncomputable def keepSame (l : List Fin1) : List Nat → T AObj → T AObj
  | [], t => t
  | b :: r, t => keepSame l r (match t.get b with
    | some o => match allSame b o l with | true => t | false => t.del b
    | none => t)
def natsEq : List Nat → List Nat → Bool
  | [], [] => true
  | a :: r, b :: s => Nat.beq a b && natsEq r s
  | _, _ => false
def unionG : T (List Nat) → T (List Nat) → T (List Nat)
  | .e, b => b
  | a, .e => a
  | .n u a b c d, .n v p q r s => .n (match u, v with | some a, some b => some (match natsEq a b with | true => a | false => a ++ b) | none, b => b | a, none => a) (unionG a p) (unionG b q) (unionG c r) (unionG d s)
def maxNext : List Fin1 → Nat → Nat
  | [], n => n
  | (_, h, _) :: r, n => maxNext r (match Nat.ble n h.next with | true => h.next | false => n)
def allG : List Fin1 → T (List Nat) → T (List Nat)
  | [], g => g
  | (_, h, _) :: r, g => allG r (unionG g h.g)
def dirty : List Fin1 → List Nat
  | [] => []
  | (_, h, _) :: r => (match h.d with | some l => l | none => []) ++ dirty r
def allOut (o : Out) : List Fin1 → Bool
  | [] => true
  | (o', _, none) :: r => outBeq o o' && allOut o r
  | _ => false
/-- one outcome for all: what they have alike. d0: what is noted of the caller's heap -/
noncomputable def mergeF (d0 : Option (List Nat)) (l : List Fin1) : M :=
  match l with
  | [] => .error "merge: none"
  | [(o, h, c)] => .ok [(o, ⟨h.next, h.t, h.g, match d0 with | none => none | some d => some (dirty l ++ d)⟩, c)]
  | (o, h, none) :: r => match allOut o r with
    | true => .ok [(o, ⟨maxNext r h.next, keepSame r (dirty l) h.t, allG r h.g, match d0 with | none => none | some d => some (dirty l ++ d)⟩, none)]
    | false => .error "merge: they part"
  | _ => .error "merge: a panic of the caller's"

def joinM {α : Type} (f : α → M) : List α → M
  | [] => .ok []
  | x :: r => match f x with
    | .error e => .error e
    | .ok a => match joinM f r with
      | .error e => .error e
      | .ok b => .ok (a ++ b)

/-- what was done ahead of its time: a read and its value; a new block and what is in it -/
inductive Pr where
  | rd (x : RI) (v : SV) (tm : T SV)
  | al (i b : Nat) (o : AObj)
  deriving Inhabited
/-- what was done early, and is not surely ahead of an effect, is as it was -/
noncomputable def promises (pre : Nat) (h : AH) : List Pr → Bool
  | [] => true
  | .rd r v tm :: rest => match Nat.testBit pre r.i with
    | true => promises pre h rest
    | false => match opN P r.o.op tm h with
      | some v' => match SV.beq v v' with | true => promises pre h rest | false => false
      | none => false
  | .al i b o :: rest => match Nat.testBit pre i with
    | true => promises pre h rest
    | false => match h.t.get b with
      | some o' => match o.beq o' with | true => promises pre h rest | false => false
      | none => false

abbrev CP := Option (List APan)
abbrev RunT := FC → List AItem → T SV → List ADef → AMode → AH → CP → M
def err (s : String) : M := .error s

/-! ### sums -/
def bytesN : List SV → Option (List Nat)
  | [] => some []
  | .int .u8 (.ofNat n) :: r => match Nat.blt n 256, bytesN r with
    | true, some l => some (n :: l)
    | _, _ => none
  | _ => none
noncomputable def sliceN (v : SV) (h : AH) : Option (List Nat) := match v with
  | .nils => some []
  | .slice b off len _ sz _ => match Nat.beq sz 1, Nat.ble len 1073741824, h.load b off len with
    | true, true, some l => bytesN l
    | _, _, _ => none
  | _ => none
def sumTab : List Nat := [0, 9051005139383707209, 18102010278767414418, 9704381199536204507, 7257036000092981153, 1814259000023245288, 11493583972846619443, 16292555063049989498, 14514072000185962306, 13040162471224305931, 3628518000046490576, 5746791986423309721, 12527462061959317731, 15006518869663149738, 6263731030979658865, 3131865515489829432]
def sumHalf (s : Nat) : Nat := Nat.xor (Nat.div s 16) (nthN sumTab (Nat.mod s 16))
def sumByte (s x : Nat) : Nat := sumHalf (sumHalf (Nat.xor s x))
noncomputable def sumL (l : List Nat) : Nat → Nat := List.rec (fun s => s) (fun x _ ih s => forceN (sumHalf (Nat.xor s x)) fun s => forceN (sumHalf s) ih) l
noncomputable def sumF (s : Nat) (l : List Nat) : Nat := Nat.sub 18446744073709551615 (sumL l (Nat.sub 18446744073709551615 s))
noncomputable def pSum (args : List SV) (h : AH) : Option SV := match args with
  | [.int .u64 (.ofNat s), v] => match Nat.blt s 18446744073709551616, sliceN v h with
    | true, some l => forceN (sumF s l) fun n => some (.int .u64 (.ofNat n))
    | _, _ => none
  | _ => none
noncomputable def pureSV (x : PF) : List SV → AH → Option SV := match x with
  | .sumMore => pSum
noncomputable def runPure (x : PF) (args : List SV) (h : AH) : M := match pureSV x args h with
  | some v => .ok [(.ret v, h, none)]
  | none => err "pure"

noncomputable def enterK (run : RunT) (f : FuncId) (args : List SV) (kind : CallKind) (h : AH) (cp : CP) (fn : Func) : Option Code → M
  | none => err "enter: no body"
  | some body => run ⟨f, maxN args.length fn.ntmps, kind, none⟩ [.code body] (fillT .e 0 args) [] .run h cp
noncomputable def enterF (run : RunT) (f : FuncId) (args : List SV) (kind : CallKind) (h : AH) (cp : CP) : Option Func → M
  | none => err "enter"
  | some fn => enterK run f args kind h cp fn fn.body
noncomputable def mergeM (d0 : Option (List Nat)) : M → M
  | .error e => .error e
  | .ok l => mergeF d0 l
def AH.mark (h : AH) : AH := ⟨h.next, h.t, h.g, some []⟩
/-- a call of a function, from a heap -/
noncomputable def runCall (run : RunT) (f : FuncId) (args : List SV) (h : AH) : M := match P.pur f with
  | some x => runPure x args h
  | none => match P.mg f with
    | false => enterF run f args .normal h none (P.fn f)
    | true => mergeM h.d (enterF run f args .normal h.mark none (P.fn f))
noncomputable def putParams (tm : T SV) : List (Tmp × SV) → T SV
  | [] => tm
  | (i, v) :: r => putParams (tm.set i v) r
noncomputable def roundL (run : RunT) (l : Nat) (args : List SV) (h : AH) (lp : ALoop) : M :=
  match Nat.beq lp.params.length args.length, lp.params.all (fun i => Nat.blt i lp.nt), P.fn lp.fn with
  | true, true, some _ => run ⟨lp.fn, lp.nt, .normal, some l⟩ [.code lp.assign, .beginRound, .code lp.body] (putParams lp.tmps (lp.params.zip args)) [] .run h none
  | _, _, _ => err "round"
noncomputable def runRound (run : RunT) (l : Nat) (args : List SV) (h : AH) : M :=
  match h.t.get l with
  | some (.loop lp) => roundL P run l args h lp
  | _ => err "round"

noncomputable def clearT (tm : T SV) : List RI → T SV
  | [] => tm
  | x :: r => match x.o.dst with
    | some d => clearT (tm.del d) r
    | none => clearT tm r

/-- what comes behind one operation of a region -/
abbrev Rest := List Pr → T SV → List ADef → AH → CP → M
noncomputable def doSet (nt : Nat) (dst : Option Tmp) (v : SV) (ih : Rest) (pr : List Pr) (tm : T SV) (ds : List ADef) (h : AH) (cp : CP) : M :=
  match setDst nt tm dst v with
  | some tm => ih pr tm ds h cp
  | none => err "dst"
noncomputable def doN (_ : RunT) (C : FC) (_ : T SV) (x : RI) (ih : Rest) (pr : List Pr) (tm : T SV) (ds : List ADef) (h : AH) (cp : CP) : M :=
  match opN P x.o.op tm h with
  | some v => doSet C.nt x.o.dst v ih pr tm ds h cp
  | none => err (x.o.pos)
noncomputable def doR (_ : RunT) (C : FC) (_ : T SV) (x : RI) (ih : Rest) (pr : List Pr) (tm : T SV) (ds : List ADef) (h : AH) (cp : CP) : M :=
  match opN P x.o.op tm h with
  | some v => doSet C.nt x.o.dst v ih (.rd x v tm :: pr) tm ds h cp
  | none => err (x.o.pos)
noncomputable def doA2 (C : FC) (x : RI) (ih : Rest) (pr : List Pr) (tm : T SV) (ds : List ADef) (cp : CP) (b : Nat) (v : SV) (h' : AH) : M :=
  match h'.t.get b with
  | some o => doSet C.nt x.o.dst v ih (.al x.i b o :: pr) tm ds h' cp
  | none => err "new"
noncomputable def doA (_ : RunT) (C : FC) (_ : T SV) (x : RI) (ih : Rest) (pr : List Pr) (tm : T SV) (ds : List ADef) (h : AH) (cp : CP) : M :=
  match h.t.get h.next with
  | some _ => err "new: next"
  | none => match opE P x.o.op tm h with
    | .val v h' => doA2 C x ih pr tm ds cp h.next v h'
    | _ => err (x.o.pos)
noncomputable def fin (C : FC) (x : RI) (ih : Rest) (pr : List Pr) (tm : T SV) (ds : List ADef) (v : SV) (h : AH) (cp : CP) : M :=
  match promises P x.pre h pr with
  | true => doSet C.nt x.o.dst v ih pr tm ds h cp
  | false => err (x.o.pos)
noncomputable def after (run : RunT) (C : FC) (tmP : T SV) (x : RI) (ih : Rest) (pr : List Pr) (tm : T SV) (ds : List ADef) (cp : CP) (r : Fin1) : M :=
  match r with
  | (.ret v, h, _) => fin P C x ih pr tm ds v h cp
  | (.panic c, h, _) => run C [] tmP ds (.panicking c) h cp
noncomputable def bindJ (f : Fin1 → M) : M → M
  | .error e => .error e
  | .ok l => joinM f l
noncomputable def doDefer (C : FC) (x : RI) (ih : Rest) (pr : List Pr) (tm : T SV) (ds : List ADef) (d : ADef) (h : AH) (cp : CP) : M := match C.round with
  | none => fin P C x ih pr tm (d :: ds) (.tup []) h cp
  | some _ => err "defer in a round"
noncomputable def doRecover (C : FC) (x : RI) (ih : Rest) (pr : List Pr) (tm : T SV) (ds : List ADef) (h : AH) (cp : CP) : M := match C.kind, C.round with
  | .deferred, none => fin P C x ih pr tm ds (recoverA cp).1 h (recoverA cp).2
  | .normal, none => fin P C x ih pr tm ds .nili h cp
  | _, _ => err "recover"
noncomputable def doAct (run : RunT) (C : FC) (tmP : T SV) (x : RI) (ih : Rest) (pr : List Pr) (tm : T SV) (ds : List ADef) (h : AH) (cp : CP) (a : Act) : M :=
  match a with
  | .val v h => fin P C x ih pr tm ds v h cp
  | .alts l => joinM (fun r => fin P C x ih pr tm ds r.1 r.2 cp) l
  | .call f args h => bindJ (after P run C tmP x ih pr tm ds cp) (runCall P run f args h)
  | .round l args => bindJ (after P run C tmP x ih pr tm ds cp) (runRound P run l args h)
  | .defer d => doDefer P C x ih pr tm ds d h cp
  | .recover => doRecover P C x ih pr tm ds h cp
  | .panic v => run C [] tmP ds (.panicking [⟨v, false⟩]) h cp
  | .fail why => err (x.o.pos ++ " " ++ why)
noncomputable def doE (run : RunT) (C : FC) (tmP : T SV) (x : RI) (ih : Rest) (pr : List Pr) (tm : T SV) (ds : List ADef) (h : AH) (cp : CP) : M :=
  doAct P run C tmP x ih pr tm ds h cp (opE P x.o.op tm h)
noncomputable def regDo (c : Cls) : RunT → FC → T SV → RI → Rest → Rest :=
  match c with
  | .n => doN P
  | .r => doR P
  | .a => doA P
  | .e => doE P
noncomputable def regG (run : RunT) (C : FC) (tmP : T SV) (x : RI) (ih : Rest) (pr : List Pr) (tm : T SV) (ds : List ADef) (h : AH) (cp : CP) : Option Bool → M
  | none => err "guard"
  | some true => regDo P x.cl run C tmP x ih pr tm ds h cp
  | some false => doSet C.nt x.o.dst (.tup []) ih pr tm ds h cp
noncomputable def regOp (run : RunT) (C : FC) (tmP : T SV) (x : RI) (ih : Rest) (pr : List Pr) (tm : T SV) (ds : List ADef) (h : AH) (cp : CP) : M :=
  match x.g with
  | none => regDo P x.cl run C tmP x ih pr tm ds h cp
  | some g => regG P run C tmP x ih pr tm ds h cp (wantedA tm (some g))
/-- the operations of a region, one behind the other; tmP: what the frame has if a panic ends it -/
noncomputable def regRun (run : RunT) (C : FC) (k : List AItem) (tmP : T SV) (l : List RI) : Rest :=
  List.rec (fun _ tm ds h cp => run C k tm ds .run h cp) (fun x _ ih => regOp P run C tmP x ih) l

noncomputable def leaveL (h : AH) (cp : CP) (l : Nat) (jump : Option Code) (lp : ALoop) : M :=
  .ok [(.ret (.bool jump.isNone), h.put l (.loop ⟨(match jump with | none => .ready | some _ => .done), jump, lp.fn, lp.tmps, lp.nt, lp.params, lp.assign, lp.body, lp.defers⟩), cp)]
noncomputable def leaveR (run : RunT) (C : FC) (tm : T SV) (ds : List ADef) (h : AH) (cp : CP) : Option Code → M
  | none => run C [] tm ds .returning h cp
  | some .ret => run C [] tm ds .returning h cp
  | _ => err "leave"
noncomputable def leaveA (run : RunT) (C : FC) (tm : T SV) (ds : List ADef) (h : AH) (cp : CP) (jump : Option Code) : M :=
  match C.round with
  | none => leaveR run C tm ds h cp jump
  | some l => match h.t.get l with
    | some (.loop lp) => leaveL h cp l jump lp
    | _ => err "leave: no loop"

abbrev CodeT := RunT → List AItem → FC → T SV → List ADef → AH → CP → M
noncomputable def cRet (run : RunT) (_ : List AItem) (C : FC) (tm : T SV) (ds : List ADef) (h : AH) (cp : CP) : M := leaveA run C tm ds h cp (some .ret)
def cSkip (run : RunT) (k : List AItem) (C : FC) (tm : T SV) (ds : List ADef) (h : AH) (cp : CP) : M := run C k tm ds .run h cp
def cSeq (a b : Code) (run : RunT) (k : List AItem) (C : FC) (tm : T SV) (ds : List ADef) (h : AH) (cp : CP) : M := run C (.code a :: .code b :: k) tm ds .run h cp
noncomputable def cCond (c : Operand) (a b : Code) (run : RunT) (k : List AItem) (C : FC) (tm : T SV) (ds : List ADef) (h : AH) (cp : CP) : M := match evalQ c tm with
  | some (.bool true) => run C (.code a :: k) tm ds .run h cp
  | some (.bool false) => run C (.code b :: k) tm ds .run h cp
  | _ => err "cond"
def cBlock (id : Nat) (body : Code) (run : RunT) (k : List AItem) (C : FC) (tm : T SV) (ds : List ADef) (h : AH) (cp : CP) : M := run C (.code body :: .inBlock id :: k) tm ds .run h cp
def cLoop (body : Code) (run : RunT) (k : List AItem) (C : FC) (tm : T SV) (ds : List ADef) (h : AH) (cp : CP) : M := run C (.code body :: .inLoop body :: k) tm ds .run h cp
noncomputable def cExit (id : Nat) (run : RunT) (k : List AItem) (C : FC) (tm : T SV) (ds : List ADef) (h : AH) (cp : CP) : M := match exitToA id k with
  | some k => run C k tm ds .run h cp
  | none => leaveA run C tm ds h cp (some (.exit id))
noncomputable def cRegion (ops : Array Oper) (draw : Bool) (run : RunT) (k : List AItem) (C : FC) (tm : T SV) (ds : List ADef) (h : AH) (cp : CP) : M := match creg P ops draw with
  | some l => regRun P run C k (clearT tm l) l [] tm ds h cp
  | none => err "region"
noncomputable def rfAfter (run : RunT) (k : List AItem) (C : FC) (tm : T SV) (ds : List ADef) (cp : CP) (l : Nat) (r : Fin1) : M := match r with
  | (.ret _, h, _) => run C (.endRangeFunc l :: k) tm ds .run h cp
  | (.panic _, _, _) => err "a panic out of an iterator"
noncomputable def rfCall (run : RunT) (k : List AItem) (C : FC) (tm : T SV) (ds : List ADef) (cp : CP) (l : Nat) (a : Act) : M := match a with
  | .call f args h => bindJ (rfAfter run k C tm ds cp l) (runCall P run f args h)
  | _ => err "rangeFunc: what is called"
noncomputable def rfLoop (params : Array Tmp) (assign body : Code) (run : RunT) (k : List AItem) (C : FC) (tm : T SV) (cp : CP) (fn : Fn) (first cap : List SV) (r : Nat) (h : AH) (ds : List ADef) : M :=
  rfCall P run k C tm ds cp h.next (invokeF P fn cap (first ++ [.func (.yield h.next) [] []]) (h.new (.loop ⟨.ready, none, C.fn, tm, C.nt, params.toList, assign, body, r⟩)))
noncomputable def rfIn (params : Array Tmp) (assign body : Code) (run : RunT) (k : List AItem) (C : FC) (tm : T SV) (ds : List ADef) (h : AH) (cp : CP) (fn : Fn) (first cap : List SV) : M := match C.round with
  | none => rfLoop P params assign body run k C tm cp fn first cap h.next (h.new (.deferred (some []))) (⟨.collected h.next, []⟩ :: ds)
  | some l0 => match h.t.get l0 with
    | some (.loop l0) => rfLoop P params assign body run k C tm cp fn first cap l0.defers h ds
    | _ => err "rangeFunc"
noncomputable def cRF (f : Operand) (params : Array Tmp) (assign body : Code) (run : RunT) (k : List AItem) (C : FC) (tm : T SV) (ds : List ADef) (h : AH) (cp : CP) : M := match evalQ f tm with
  | some (.func fn first cap) => rfIn P params assign body run k C tm ds h cp fn first cap
  | _ => err "rangeFunc: its function"
def cNone (_ : RunT) (_ : List AItem) (_ : FC) (_ : T SV) (_ : List ADef) (_ : AH) (_ : CP) : M := err "code"
noncomputable def codeRun (c : Code) : CodeT :=
  match c with
  | .ret => cRet
  | .skip => cSkip
  | .seq a b => cSeq a b
  | .cond c a b => cCond c a b
  | .block id body => cBlock id body
  | .loop body => cLoop body
  | .exit id => cExit id
  | .region _ ops draw => cRegion P ops draw
  | .rangeFunc f params assign body => cRF P f params assign body
  | _ => cNone
noncomputable def begL (run : RunT) (k : List AItem) (C : FC) (tm : T SV) (ds : List ADef) (h : AH) (cp : CP) (l : Nat) (lp : ALoop) : LoopState → M
  | .ready => run C k tm ds .run (h.put l (.loop ⟨.busy, lp.pending, lp.fn, lp.tmps, lp.nt, lp.params, lp.assign, lp.body, lp.defers⟩)) cp
  | _ => err "beginRound: state"
noncomputable def iBeg (run : RunT) (k : List AItem) (C : FC) (tm : T SV) (ds : List ADef) (h : AH) (cp : CP) : M := match C.round with
  | some l => match h.t.get l with
    | some (.loop lp) => begL run k C tm ds h cp l lp lp.state
    | _ => err "beginRound"
  | none => err "beginRound"
def pendK (k : List AItem) : Option Code → List AItem
  | some c => .code c :: k
  | none => k
noncomputable def endL (run : RunT) (k : List AItem) (C : FC) (tm : T SV) (ds : List ADef) (h : AH) (cp : CP) (l : Nat) (lp : ALoop) : LoopState → M
  | .busy => err "endLoop: busy"
  | _ => run C (pendK k lp.pending) tm ds .run (h.put l (.loop ⟨.exhausted, lp.pending, lp.fn, lp.tmps, lp.nt, lp.params, lp.assign, lp.body, lp.defers⟩)) cp
noncomputable def iEnd (l : Nat) (run : RunT) (k : List AItem) (C : FC) (tm : T SV) (ds : List ADef) (h : AH) (cp : CP) : M := match h.t.get l with
  | some (.loop lp) => endL run k C tm ds h cp l lp lp.state
  | _ => err "endRangeFunc"
def iBlock (_ : Nat) (run : RunT) (k : List AItem) (C : FC) (tm : T SV) (ds : List ADef) (h : AH) (cp : CP) : M := run C k tm ds .run h cp
noncomputable def itemRun (it : AItem) : CodeT :=
  match it with
  | .code c => codeRun P c
  | .inBlock id => iBlock id
  | .inLoop body => cLoop body
  | .inRangeFunc _ => cNone
  | .beginRound => iBeg
  | .endRangeFunc l => iEnd l
noncomputable def stepRun (run : RunT) (C : FC) (tm : T SV) (ds : List ADef) (h : AH) (cp : CP) : List AItem → M
  | [] => leaveA run C tm ds h cp none
  | it :: k => itemRun P it run k C tm ds h cp

def cpOf : AMode → CP
  | .panicking c => some c
  | _ => none
noncomputable def dfAfter (run : RunT) (C : FC) (tm : T SV) (ds : List ADef) (cp : CP) (r : Fin1) : M := match r with
  | (.ret _, h, c') => run C [] tm ds (afterCp c') h cp
  | (.panic _, _, _) => err "a panic in a deferred call"
noncomputable def dfCall (run : RunT) (C : FC) (tm : T SV) (ds : List ADef) (m : AMode) (cp : CP) (a : Act) : M := match a with
  | .call f args h => bindJ (dfAfter run C tm ds cp) (enterF run f args .deferred h (cpOf m) (P.fn f))
  | .val _ h => run C [] tm ds m h cp
  | _ => err "deferred call"
noncomputable def dfRun (run : RunT) (C : FC) (tm : T SV) (ds : List ADef) (m : AMode) (h : AH) (cp : CP) (d : ADef) : M := match d.tgt with
  | .collected b => match h.t.get b with
    | some (.deferred (some l)) => run C [] tm (l ++ ds) m (h.put b (.deferred none)) cp
    | _ => err "collected"
  | .fn fn cap => dfCall P run C tm ds m cp (invokeF P fn cap d.args h)
noncomputable def retF (tm : T SV) (h : AH) (cp : CP) : Option Func → M
  | none => err "no function"
  | some fn => match resultA P fn tm h with
    | some v => .ok [(.ret v, h, cp)]
    | none => err "results"
noncomputable def endF (C : FC) (tm : T SV) (h : AH) (cp : CP) : AMode → M
  | .panicking c => .ok [(.panic c, h, cp)]
  | _ => match C.round with
    | none => retF P tm h cp (P.fn C.fn)
    | some _ => err "a round returns"
noncomputable def stepEnd (run : RunT) (C : FC) (tm : T SV) (m : AMode) (h : AH) (cp : CP) : List ADef → M
  | d :: ds => dfRun P run C tm ds m h cp d
  | [] => endF P C tm h cp m

noncomputable def stepA (run : RunT) (C : FC) (todo : List AItem) (tm : T SV) (ds : List ADef) (m : AMode) (h : AH) (cp : CP) : M :=
  match m with
  | .run => stepRun P run C tm ds h cp todo
  | m => stepEnd P run C tm m h cp ds
def fuelOut : RunT := fun _ _ _ _ _ _ _ => err "fuel"
noncomputable def runA (n : Nat) : RunT := Nat.rec fuelOut (fun _ ih => stepA P ih) n
end
end Go.Ex
