/-
  DM 4. What each operation does to values: the step of the machine of values.
-/
import Derived.Test.YtjjdjkkhhcbogaaD3
namespace Go.Proofs.Ytjjdjkkhhcbogaa.DM
set_option linter.unusedVariables false
set_option linter.unusedSimpArgs false
variable (P : Program)
def mapO {α β : Type} (f : α → Option β) : List α → Option (List β)
  | [] => some []
  | x :: xs => match f x, mapO f xs with
    | some y, some ys => some (y :: ys)
    | _, _ => none
def szT (t : TypeId) : Option Nat := (P.info? t).map (·.size)
/-- Is a variable of the type one of several cells? -/
def aggT (t : TypeId) : Option Bool := (P.underlying t).map fun | .struct _ => true | .array _ _ => true | _ => false
def zcD (v : Value) : Option D := if plain v then some (.sc v) else match v with | .slice none 0 0 => some (.ow () 0 0 []) | _ => none
def zcC (v : Value) : Option DC := if plain v then some (.t (.sc v)) else match v with | .slice none 0 0 => some .nl | _ => none
def zeroT (t : TypeId) : Option (List Value) := ((P.info? t).bind (·.zero)).map (·.cells.toList)
def cst (v : Value) : DV := match v with
  | .agg cs => match mapO zcC cs.toList with | some l => .v (.agg l) | none => .un
  | v => match zcC v with | some c => .v (.one c) | none => .un
def ev (e : Nat → DV) : Operand → DV
  | .tmp t => e t
  | .const v => cst v
  | .func f => .v (.one (.fn f []))
  | .global _ => .un
def asSc : DV → Option Value
  | .v (.one (.t (.sc v))) => some v
  | _ => none
def asInt : DV → Option Int
  | .v (.one (.t (.sc (.int _ n)))) => some n
  | _ => none
/-- The cells of a value. -/
def dcs : DV → Option (List DC)
  | .v (.one c) => some [c]
  | .v (.agg cs) => some cs
  | _ => none
def FS.set (s : FS) (dst : Option Nat) (v : DV) : FS := match dst with
  | some d => ⟨upd s.e d v, s.h, s.g⟩
  | none => s
def dstOk (nt : Nat) (dst : Option Nat) : Bool := match dst with
  | some d => decide (d < nt)
  | none => true
def FS.poison (s : FS) (id : Nat) (p : List Nat) : FS := ⟨fun i => pzV id p (s.e i), s.h, fun i => pzC id p (s.g i)⟩
/-- A cell as it is read out of place i of a row. -/
def rdC (id : Nat) (p : List Nat) (i : Nat) : D → Option DC
  | .sc v => some (.t (.sc v))
  | .ro _ r => some (.t r)
  | .ow _ _ n _ => some (.sl id (p ++ [i]) 0 n)
  | _ => none
def rdCs (id : Nat) (p : List Nat) : Nat → List D → Option (List DC)
  | _, [] => some []
  | i, x :: xs => match rdC id p i x, rdCs id p (i + 1) xs with
    | some c, some cs => some (c :: cs)
    | _, _ => none
/-- A row is taken out of its place. -/
def FS.take (s : FS) (id : Nat) (p : List Nat) (root : D) : FS := ⟨fun i => pzV id p (s.e i), upd s.h id (match p with | [] => none | _ => some (root.put p (.gone ()))), fun i => pzC id p (s.g i)⟩
def absorb (s : FS) : DC → Option (D × FS)
  | .t (.sc v) => some (.sc v, s)
  | .t r => some (.ro () r, s)
  | .nl => some (.ow () 0 0 [], s)
  | .sl id p off n => match s.h id with
    | some root => match root.get p with
      | some (.ow _ sz m cs) => if off + n * sz ≤ cs.length then some (.ow () sz n ((cs.drop off).take (n * sz)), s.take id p root) else none
      | _ => none
    | none => none
  | _ => none
/-- What is no more referred to when a cell has been taken. -/
def pzOf : DC → DC → DC
  | .sl id p _ _ => pzC id p
  | _ => fun c => c
def absorbL : FS → List DC → Option (List D × FS)
  | s, [] => some ([], s)
  | s, c :: cs => match absorb s c with
    | some (x, s1) => match absorbL s1 (cs.map (pzOf c)) with
      | some (xs, s2) => some (x :: xs, s2)
      | none => none
    | none => none
termination_by _ cs => cs.length
decreasing_by simp
def isOw : D → Bool
  | .ow .. => true
  | _ => false
/-- A value is laid into one cell of a row; what is no more referred to. -/
def storeC (s : FS) (id : Nat) (p : List Nat) (off : Nat) (c : DC) : Option (FS × (DC → DC)) :=
  match absorb s c, pzOf c (.pt id p off) with
  | some (x, s1), .pt _ _ _ => match s1.h id with
    | some root => match root.get p with
      | some (.ow _ sz n cs) => match cs[off]? with
        | some old => if isOw old then some (⟨fun i => pzV id (p ++ [off]) (s1.e i), upd s1.h id (some (root.put p (.ow () sz n (cs.set off x)))), fun i => pzC id (p ++ [off]) (s1.g i)⟩, fun d => pzC id (p ++ [off]) (pzOf c d))
          else some (⟨s1.e, upd s1.h id (some (root.put p (.ow () sz n (cs.set off x)))), s1.g⟩, pzOf c)
        | none => none
      | _ => none
    | none => none
  | _, _ => none
def storeL : FS → Nat → List Nat → Nat → List DC → Option FS
  | s, _, _, _, [] => some s
  | s, id, p, off, c :: cs => match storeC s id p off c with
    | some (s1, f) => storeL s1 id p (off + 1) (cs.map f)
    | none => none
termination_by _ _ _ _ cs => cs.length
decreasing_by simp
/-- A new row, of what is in hand. -/
def FS.row (s : FS) (d : Nat) (v : DV) (sz n : Nat) (xs : List D) : Option FS :=
  match s.h d with
  | none => some ⟨upd s.e d v, upd s.h d (some (.ow () sz n xs)), s.g⟩
  | some _ => none
def fillC (place : Nat → Option (Nat × Nat)) (z : List DC) : List (Nat × List DC) → Option (List DC)
  | [] => some z
  | (i, cs) :: rest => match place i with
    | some (off, size) => if cs.length = size ∧ off + size ≤ z.length then fillC place (z.take off ++ (cs ++ z.drop (off + size))) rest else none
    | none => none
def partsC (e : Nat → DV) : List (Nat × Operand) → Option (List (Nat × List DC))
  | [] => some []
  | (i, x) :: r => match dcs (ev e x), partsC e r with
    | some cs, some l => some ((i, cs) :: l)
    | _, _ => none
def placesT (fs : List Field) : Option (List (Nat × Nat)) := mapO (fun f => (szT P f.type).map fun n => (f.offset, n)) fs
def intBin (op : BinOp) (k : IntKind) (a b : Int) : Option Value := match op with
  | .add => some (.int k (k.wrap (a + b)))
  | .sub => some (.int k (k.wrap (a - b)))
  | .mul => some (.int k (k.wrap (a * b)))
  | .quo => if b = 0 then none else some (.int k (k.wrap (a.tdiv b)))
  | .rem => if b = 0 then none else some (.int k (a.tmod b))
  | .and => some (.int k (k.wrap (BitVec.ofInt k.bits a &&& BitVec.ofInt k.bits b).toNat))
  | .or => some (.int k (k.wrap (BitVec.ofInt k.bits a ||| BitVec.ofInt k.bits b).toNat))
  | .xor => some (.int k (k.wrap (BitVec.ofInt k.bits a ^^^ BitVec.ofInt k.bits b).toNat))
  | .eql => some (.bool (a == b))
  | .neq => some (.bool (a != b))
  | .lss => some (.bool (decide (a < b)))
  | .leq => some (.bool (decide (a ≤ b)))
  | .gtr => some (.bool (decide (a > b)))
  | .geq => some (.bool (decide (a ≥ b)))
  | _ => none
def strBin (op : BinOp) (x y : ByteArray) : Option Value := match op with
  | .add => if ((x.size + y.size : Nat) : Int) > IntKind.i64.max then none else some (.string (x ++ y))
  | .eql => some (.bool (x.toList == y.toList))
  | .neq => some (.bool (!(x.toList == y.toList)))
  | .lss => some (.bool (Op.bytesLess x.toList y.toList))
  | .leq => some (.bool (Op.bytesLess x.toList y.toList || x.toList == y.toList))
  | .gtr => some (.bool (!(Op.bytesLess x.toList y.toList || x.toList == y.toList)))
  | .geq => some (.bool (!(Op.bytesLess x.toList y.toList)))
  | _ => none
def scBin (op : BinOp) (ty : TypeId) : Value → Value → Option Value
  | .int k a, .int k' b => match op with
    | .shl => if b < 0 then none else some (.int k (k.wrap (a * 2 ^ (min b.toNat k.bits))))
    | .shr => if b < 0 then none else some (.int k (a.fdiv (2 ^ (min b.toNat k.bits))))
    | _ => if k = k' then intBin op k a b else none
  | .string x, .string y => strBin op x y
  | .bool x, .bool y => match P.underlying ty, op with
    | some .bool, .eql => some (.bool (x == y))
    | some .bool, .neq => some (.bool (!(x == y)))
    | _, _ => none
  | _, _ => none
def scUn (op : UnOp) : Value → Option Value
  | .bool b => match op with | .not => some (.bool (!b)) | _ => none
  | .int k n => match op with | .neg => some (.int k (k.wrap (0 - n))) | _ => none
  | _ => none
def sliceB (lo hi : Option DV) (n : Nat) : Option (Nat × Nat) :=
  match (match hi with | some v => asInt v | none => some (n : Int)), (match lo with | some v => asInt v | none => some 0) with
  | some h, some l => if 0 ≤ h ∧ h ≤ n ∧ 0 ≤ l ∧ l ≤ h then some (l.toNat, h.toNat) else none
  | _, _ => none
def elemT (t : TypeId) : Option (TypeId × Nat) := match P.underlying t with
  | some (.slice e) => (szT P e).map fun n => (e, n)
  | _ => none
/-- What an operation yields that changes nothing but its own temporary. -/
def quietV (s : FS) : Op → Option DV
  | .move x => some (ev s.e x)
  | .assign x => some (ev s.e x)
  | .pick c a b => match asSc (ev s.e c) with
    | some (.bool t) => some (if t then ev s.e a else ev s.e b)
    | _ => none
  | .build t parts => match zeroT P t, P.underlying t, partsC s.e parts.toList with
    | some z, some (.struct fs), some ps => match mapO zcC z, placesT P fs.toList with
      | some zs, some pl => (fillC (pl[·]?) zs ps).map fun cs => .v (.agg cs)
      | _, _ => none
    | _, _, _ => none
  | .load t x => match ev s.e x, szT P t, aggT P t with
    | .v (.one (.pt id p off)), some k, some g => match s.h id with
      | some root => match root.get p with
        | some (.ow _ _ _ cs) => if g then (if off + k ≤ cs.length then (rdCs id p off ((cs.drop off).take k)).map fun l => .v (.agg l) else none)
          else match cs[off]? with
            | some c => (rdC id p off c).map fun c => .v (.one c)
            | none => none
        | _ => none
      | none => none
    | .v (.one (.rp cs)), some k, some g => if g then (if k ≤ cs.length then some (.v (.agg ((cs.take k).map .t))) else none)
        else match cs[0]? with
          | some c => some (.v (.one (.t c)))
          | none => none
    | _, _, _ => none
  | .nilCheck x => match ev s.e x with
    | .v (.one (.pt id p off)) => some (.v (.one (.pt id p off)))
    | .v (.one (.rp cs)) => some (.v (.one (.rp cs)))
    | _ => none
  | .binOp op ty x y _ => match asSc (ev s.e x), asSc (ev s.e y) with
    | some a, some b => (scBin P op ty a b).map fun v => .v (.one (.t (.sc v)))
    | _, _ => none
  | .unOp op _ x => match asSc (ev s.e x) with
    | some a => (scUn op a).map fun v => .v (.one (.t (.sc v)))
    | none => none
  | .convert src dst x => match asSc (ev s.e x), P.underlying src, P.underlying dst with
    | some (.int _ n), some _, some (.int k) => some (.v (.one (.t (.sc (.int k (k.wrap n))))))
    | some (.string b), some _, some .string => some (.v (.one (.t (.sc (.string b)))))
    | _, _, _ => none
  | .slice t x lo hi none => match ev s.e x with
    | .v (.one (.t (.sc (.string b)))) => match P.underlying t, sliceB (lo.map (ev s.e)) (hi.map (ev s.e)) b.size with
      | some .string, some (l, h) => some (.v (.one (.t (.sc (.string (b.extract l h))))))
      | _, _ => none
    | .v (.one (.t (.sl n cs))) => match elemT P t, sliceB (lo.map (ev s.e)) (hi.map (ev s.e)) n with
      | some (_, sz), some (l, h) => if cs.length = n * sz then some (.v (.one (.t (.sl (h - l) ((cs.drop (l * sz)).take ((h - l) * sz)))))) else none
      | _, _ => none
    | .v (.one (.sl id p off n)) => match elemT P t, sliceB (lo.map (ev s.e)) (hi.map (ev s.e)) n, s.h id with
      | some (_, sz), some (l, h), some root => match root.get p with
        | some (.ow _ sz' _ _) => if sz = sz' ∧ 0 < sz then some (.v (.one (.sl id p (off + l * sz) (h - l)))) else none
        | _ => none
      | _, _, _ => none
    | .v (.one .nl) => match elemT P t, sliceB (lo.map (ev s.e)) (hi.map (ev s.e)) 0 with
      | some _, some _ => some (.v (.one .nl))
      | _, _ => none
    | _ => none
  | .fieldAddr t x f => match P.underlying t with
    | some (.struct fs) => match fs[f]? with
      | some fd => match szT P fd.type, ev s.e x with
        | some (_ + 1), .v (.one (.pt id p off)) => some (.v (.one (.pt id p (off + fd.offset))))
        | some (_ + 1), .v (.one (.rp cs)) => some (.v (.one (.rp (cs.drop fd.offset))))
        | _, _ => none
      | none => none
    | _ => none
  | .indexAddr t x i => match elemT P t, asInt (ev s.e i), ev s.e x with
    | some (_, sz), some n, .v (.one (.sl id p off m)) => if 0 ≤ n ∧ n < m then some (.v (.one (.pt id p (off + n.toNat * sz)))) else none
    | some (_, sz), some n, .v (.one (.t (.sl m cs))) => if 0 ≤ n ∧ n < m then some (.v (.one (.rp (cs.drop (n.toNat * sz))))) else none
    | _, _, _ => none
  | .index t x i => match P.underlying t, asInt (ev s.e i), asSc (ev s.e x) with
    | some .string, some n, some (.string b) => if 0 ≤ n then (match b[n.toNat]? with | some c => some (.v (.one (.t (.sc (.int .u8 c.toNat))))) | none => none) else none
    | _, _, _ => none
  | .extract x i => match ev s.e x with
    | .tup xs => match xs[i]? with | some c => some (.v c) | none => none
    | _ => none
  | .field t x f => match P.underlying t with
    | some (.struct fs) => match fs[f]? with
      | some fd => match szT P fd.type, aggT P fd.type, ev s.e x with
        | some k, some true, .v (.agg cs) => if fd.offset + k ≤ cs.length then some (.v (.agg ((cs.drop fd.offset).take k))) else none
        | some _, some false, .v (.agg cs) => match cs[fd.offset]? with | some c => some (.v (.one c)) | none => none
        | _, _, _ => none
      | none => none
    | _ => none
  | .call { callee := .builtin .len, args, argTypes } => match args.toList, argTypes.toList with
    | [x], [t] => match ev s.e x, P.underlying t with
      | .v (.one (.t (.sc (.string b)))), some .string => some (.v (.one (.t (.sc (.int .i64 b.size)))))
      | .v (.one (.t (.sl n _))), some (.slice _) => some (.v (.one (.t (.sc (.int .i64 n)))))
      | .v (.one (.sl _ _ _ n)), some (.slice _) => some (.v (.one (.t (.sc (.int .i64 n)))))
      | .v (.one .nl), some (.slice _) => some (.v (.one (.t (.sc (.int .i64 0)))))
      | _, _ => none
    | _, _ => none
  | _ => none
end Go.Proofs.Ytjjdjkkhhcbogaa.DM
