-- Written by a program of this session (shake.py): of the words and of this session's own texts what this claim names.
import Derived.Laws.Entries
import Derived.Orders
import Derived.LoopN
import Derived.Tactics
import Derived.Laws.Build
import Derived.Laws.Tables
import Derived.Laws.CopyRow
import Derived.Laws.Slices
import Derived.Laws.Strings
import Derived.Laws.StructEq
import Derived.Laws.Append
import Derived.Laws.AppendOwn
import Derived.Laws.BytesString
import Derived.Laws.MakeOwn
import Derived.Lib.AppendStr
import Derived.Lib.UnsafeStr
import Derived.Below
import Derived.Deep.Draws
import Derived.Deep.AppendLies
import Derived.Maps.AppendAt
import Derived.OwnWalk
import Derived.Laws.BytesArg
import Derived.Laws.OwnMore
import Derived.Deep.OwnRows
import Derived.Lib.ConvBytes
import Derived.WalkKit
import Derived.KernelRfl
import Derived.RowKit3
import Derived.Deep.LoopGhost
import Derived.Deep.QuietTactic
import Derived.BigQuiet
import Derived.WideLaws
import Derived.Deep.DeepCutAuto
import Derived.Deep.CutBlock
import Derived.Deep.RegionHeld3
import Derived.Laws.Rows
import Derived.ArgAppend
import Derived.Laws.IdiomCopy
import Derived.RowKit
import Derived.OrdersHeld
import Derived.Laws.BitsLemmas
set_option linter.unusedVariables false
set_option linter.unusedSimpArgs false
section
set_option linter.unusedVariables false
set_option linter.unusedSimpArgs false
namespace Go.Proofs.YtoganbmeedimiaaGreatN
def B : Int := 18446744073709551616
theorem jBP : 0 < B := by unfold B; decide
theorem B_eq : B = 18446744073709551616 := rfl
def Ok (l : List Int) : Prop := ∀ x ∈ l, 0 ≤ x ∧ x < B
instance (l : List Int) : Decidable (Ok l) := by unfold Ok; infer_instance
def val : List Int → Int
 | [] => 0
 | x :: xs => x + B * val xs
def dgn (n : Nat) : List Int := if h : n = 0 then [] else ((n % 18446744073709551616 : Nat) : Int) :: dgn (n / 18446744073709551616)
termination_by n
decreasing_by exact Nat.div_lt_self (Nat.pos_of_ne_zero h) (by decide)
def dg (n : Int) : List Int := dgn n.toNat
def sumv : List (List Int) → Int
 | [] => 0
 | r :: rs => val r + B * sumv rs
def cmpv (x y : Int) : Int := if x < y then -1 else if x = y then 0 else 1
theorem Ok.nil : Ok [] := fun _ h => absurd h List.not_mem_nil
theorem Ok.cons {x : Int} {l : List Int} (h0 : 0 ≤ x) (h1 : x < B) (h : Ok l) : Ok (x :: l) := by
 intro y hy
 rcases List.mem_cons.1 hy with rfl | hy
 ·
  exact ⟨h0, h1⟩
 ·
  exact h y hy
theorem Ok.head {x : Int} {l : List Int} (h : Ok (x :: l)) : 0 ≤ x ∧ x < B := h x (List.mem_cons_self ..)
theorem Ok.tail {x : Int} {l : List Int} (h : Ok (x :: l)) : Ok l := fun y hy => h y (List.mem_cons_of_mem _ hy)
theorem Ok.append {a b : List Int} (ha : Ok a) (hb : Ok b) : Ok (a ++ b) := fun x hx => (List.mem_append.1 hx).elim (ha x) (hb x)
theorem Ok.take {a : List Int} (ha : Ok a) (n : Nat) : Ok (a.take n) := fun x hx => ha x (List.mem_of_mem_take hx)
theorem Ok.drop {a : List Int} (ha : Ok a) (n : Nat) : Ok (a.drop n) := fun x hx => ha x (List.mem_of_mem_drop hx)
theorem Ok.set {a : List Int} (ha : Ok a) (n : Nat) {x : Int} (h0 : 0 ≤ x) (h1 : x < B) : Ok (a.set n x) := fun y hy => by
 rcases List.mem_or_eq_of_mem_set hy with hy | rfl
 ·
  exact ha y hy
 ·
  exact ⟨h0, h1⟩
theorem Ok.one {x : Int} (h0 : 0 ≤ x) (h1 : x < B) : Ok [x] := Ok.cons h0 h1 Ok.nil
theorem Ok.rep (n : Nat) : Ok (List.replicate n 0) := fun x hx => by
 rw [List.eq_of_mem_replicate hx]
 exact ⟨Int.le_refl _, jBP⟩
theorem Ok.at {a : List Int} (ha : Ok a) (i : Nat) : 0 ≤ a.getD i 0 ∧ a.getD i 0 < B := by
 rw [List.getD_eq_getElem?_getD]
 by_cases h : i < a.length
 ·
  rw [List.getElem?_eq_getElem h]
  exact ha _ (List.getElem_mem h)
 ·
  rw [List.getElem?_eq_none (by omega)]
  exact ⟨Int.le_refl _, jBP⟩
theorem zX (n : Nat) : 0 < B ^ n := Int.pow_pos jBP
theorem zP (n : Nat) : B ^ (n + 1) = B ^ n * B := Int.pow_succ ..
theorem jAN {m n : Nat} (h : m ≤ n) : B ^ m ≤ B ^ n := by
 obtain ⟨k, rfl⟩ := Nat.le.dest h
 rw [Int.pow_add]
 have h1 := zX m
 have h2 := zX k
 have : B ^ m * 1 ≤ B ^ m * B ^ k := Int.mul_le_mul_of_nonneg_left (by omega) (by omega)
 omega
theorem qg : val [] = 0 := rfl
theorem qW (x : Int) (l : List Int) : val (x :: l) = x + B * val l := rfl
theorem val_one (x : Int) : val [x] = x := by simp [val]
theorem val_append (a b : List Int) : val (a ++ b) = val a + B ^ a.length * val b := by
 induction a with
 | nil => simp [val]
 | cons x a ih =>
  rw [List.cons_append, qW, qW, ih, List.length_cons, zP, Int.mul_add, Int.mul_comm (B ^ a.length) B, Int.mul_assoc, Int.add_assoc]
theorem jDH (a : List Int) (x : Int) : val (a ++ [x]) = val a + B ^ a.length * x := by rw [val_append, val_one]
theorem jBR (n : Nat) : val (List.replicate n 0) = 0 := by
 induction n with
 | zero => rfl
 | succ n ih => rw [List.replicate_succ, qW, ih]; omega
theorem jc {l : List Int} (h : Ok l) : 0 ≤ val l := by
 induction l with
 | nil => exact Int.le_refl _
 | cons x l ih =>
  have h1 := h.head
  have h2 := Int.mul_nonneg (Int.le_of_lt jBP) (ih h.tail)
  rw [qW]
  omega
theorem jAJ {l : List Int} (h : Ok l) : val l < B ^ l.length := by
 induction l with
 | nil => simp [val]
 | cons x l ih =>
  have h1 := h.head
  have h2 := ih h.tail
  have h3 : B * (val l + 1) ≤ B * B ^ l.length := Int.mul_le_mul_of_nonneg_left (by omega) (Int.le_of_lt jBP)
  rw [qW, List.length_cons, zP, Int.mul_comm (B ^ l.length) B]
  rw [Int.mul_add] at h3
  omega
theorem jBw {l : List Int} {i : Nat} (h : i < l.length) (x : Int) : val (l.set i x) = val l + B ^ i * (x - l.getD i 0) := by
 induction l generalizing i with
 | nil => simp at h
 | cons y l ih =>
  cases i with
  | zero => simp [val]; omega
  | succ i =>
   have h' : i < l.length := by simpa using h
   have e : (y :: l).getD (i + 1) 0 = l.getD i 0 := rfl
   rw [List.set_cons_succ, qW, qW, ih h', e, zP, Int.mul_add, Int.mul_comm (B ^ i) B, Int.mul_assoc, Int.add_assoc]
theorem vG (l : List Int) (i : Nat) (h : i ≤ l.length) : val l = val (l.take i) + B ^ i * val (l.drop i) := by
 have e := val_append (l.take i) (l.drop i)
 rw [List.take_append_drop, List.length_take, Nat.min_eq_left h] at e
 exact e
theorem qV {l : List Int} {i : Nat} (h : i < l.length) : val (l.drop i) = l.getD i 0 + B * val (l.drop (i + 1)) := by
 rw [List.drop_eq_getElem_cons h, qW, List.getD_eq_getElem?_getD, List.getElem?_eq_getElem h]
 rfl
theorem jAU {l : List Int} {i : Nat} (h : i < l.length) : val (l.take (i + 1)) = val (l.take i) + B ^ i * l.getD i 0 := by
 rw [List.take_succ_eq_append_getElem h, jDH, List.length_take, Nat.min_eq_left (by omega), List.getD_eq_getElem?_getD, List.getElem?_eq_getElem h]
 rfl
theorem jDJ : dgn 0 = [] := by rw [dgn]; simp
theorem jHd {n : Nat} (h : n ≠ 0) : dgn n = ((n % 18446744073709551616 : Nat) : Int) :: dgn (n / 18446744073709551616) := by
 rw [dgn]
 simp [h]
theorem jBd : dg 0 = [] := jDJ
theorem jLB {n : Int} (h : n ≤ 0) : dg n = [] := by
 unfold dg
 rw [Int.toNat_of_nonpos h]
 exact jDJ
theorem jNt (n : Nat) : val (dgn n) = n := by
 induction n using Nat.strongRecOn with
 | _ n ih =>
  by_cases h : n = 0
  ·
   subst h; rw [jDJ]; rfl
  ·
   have hd := ih (n / 18446744073709551616) (Nat.div_lt_self (Nat.pos_of_ne_zero h) (by decide))
   rw [jHd h, qW, hd, B_eq]
   omega
theorem qh {n : Int} (h : 0 ≤ n) : val (dg n) = n := by
 unfold dg
 rw [jNt]
 omega
theorem jPi (n : Nat) : Ok (dgn n) := by
 induction n using Nat.strongRecOn with
 | _ n ih =>
  by_cases h : n = 0
  ·
   subst h; rw [jDJ]; exact Ok.nil
  ·
   rw [jHd h]
   exact Ok.cons (by omega) (by rw [B_eq]; omega) (ih _ (Nat.div_lt_self (Nat.pos_of_ne_zero h) (by decide)))
theorem jAs (n : Int) : Ok (dg n) := jPi _
theorem jLD {x n : Int} (h0 : 0 ≤ x) (h1 : x < B) (hn : 0 ≤ n) (hp : 0 < x + B * n) : dg (x + B * n) = x :: dg n := by
 unfold dg
 obtain ⟨x, rfl⟩ := Int.eq_ofNat_of_zero_le h0
 obtain ⟨n, rfl⟩ := Int.eq_ofNat_of_zero_le hn
 have hx : x < 18446744073709551616 := by rw [B_eq] at h1; omega
 have e : ((x : Int) + B * n).toNat = x + 18446744073709551616 * n := by rw [B_eq]; omega
 have hne : x + 18446744073709551616 * n ≠ 0 := by omega
 rw [e, jHd hne, Nat.add_mul_mod_self_left, Nat.mod_eq_of_lt hx, Nat.add_mul_div_left _ _ (by decide), Nat.div_eq_of_lt hx, Nat.zero_add]
 rfl
theorem jLA {l : List Int} (h : Ok l) (hl : l = [] ∨ l.getD (l.length - 1) 0 ≠ 0) : dg (val l) = l := by
 induction l with
 | nil => exact jBd
 | cons x l ih =>
  have hx := h.head
  have hv := jc h.tail
  have hm := Int.mul_nonneg (Int.le_of_lt jBP) hv
  have hl' : l = [] ∨ l.getD (l.length - 1) 0 ≠ 0 := by
   cases l with
   | nil => exact .inl rfl
   | cons y l => exact .inr (by simpa using hl)
  have ihl := ih h.tail hl'
  have hp : 0 < x + B * val l := by
   cases l with
   | nil =>
    have : x ≠ 0 := by simpa using hl
    simp only [qg]
    omega
   | cons y l =>
    have hv' : val (y :: l) ≠ 0 := fun e => by rw [e, jBd] at ihl; cases ihl
    have : 0 < B * val (y :: l) := Int.mul_pos jBP (by omega)
    omega
  rw [qW, jLD hx.1 hx.2 hv hp, ihl]
theorem jBu {n : Int} {m : Nat} (h : n < B ^ m) : (dg n).length ≤ m := by
 induction m generalizing n with
 | zero =>
  rw [jLB (by simpa using Int.le_of_lt_add_one (by simpa using h))]
  simp
 | succ m ih =>
  by_cases hn : n ≤ 0
  ·
   rw [jLB hn]; simp
  ·
   have hB := jBP
   have e : n = n % B + B * (n / B) := by rw [Int.emod_add_mul_ediv]
   have h0 := Int.emod_nonneg n (Int.ne_of_gt hB)
   have h1 := Int.emod_lt_of_pos n hB
   have hd : 0 ≤ n / B := Int.ediv_nonneg (by omega) (by omega)
   have hlt : n / B < B ^ m := Int.ediv_lt_of_lt_mul hB (by rw [← zP]; exact h)
   rw [e, jLD h0 h1 hd (by omega)]
   have := ih hlt
   simp
   omega
theorem jKj {n : Int} {m : Nat} (h : (dg n).length ≤ m) : n < B ^ m := by
 by_cases hn : n ≤ 0
 ·
  have := zX m; omega
 ·
  have h1 := jAJ (jAs n)
  rw [qh (by omega)] at h1
  have := jAN h
  omega
theorem zo {l : List Int} (h : Ok l) : (dg (val l)).length ≤ l.length := jBu (jAJ h)
theorem jHe (n : Int) : dg n = [] ∨ (dg n).getD ((dg n).length - 1) 0 ≠ 0 := by
 by_cases hn : n ≤ 0
 ·
  exact .inl (jLB hn)
 ·
  by_cases he : dg n = []
  ·
   exact .inl he
  ·
   refine .inr fun hz => ?_
   have hlen : 0 < (dg n).length := List.length_pos_iff.2 he
   have e := vG (dg n) ((dg n).length - 1) (by omega)
   rw [qV (by omega), hz, List.drop_eq_nil_of_le (by omega), qg, qh (by omega)] at e
   have h1 := jAJ (Ok.take (jAs n) ((dg n).length - 1))
   rw [List.length_take, Nat.min_eq_left (by omega)] at h1
   have h2 := jBu (n := n) (m := (dg n).length - 1) (by simp at e; omega)
   omega
theorem jEu {n : Int} (h : 0 ≤ n) : dg n = [] ↔ n = 0 := by
 constructor
 ·
  intro e
  have := qh h
  rw [e] at this
  exact this.symm
 ·
  rintro rfl; exact jBd
theorem jLH (x : Int) : cmpv x x = 0 := by simp [cmpv]
end Go.Proofs.YtoganbmeedimiaaGreatN
end
section
set_option linter.unusedVariables false
set_option linter.unusedSimpArgs false
namespace Go.Ev
noncomputable section
inductive SV where
 | bool (b : Bool)
 | int (k : IntKind) (n : Int)
 | str (s : ByteArray)
 | ptr (b off : Nat)
 | nilp
 | sl (b off len c : Nat) (op : Bool)
 | nils
 | fn (f : FuncId) (caps : List (Nat × Nat))
 | nili
 | nilf
inductive AV where
 | sc (s : SV)
 | agg (l : List SV)
inductive TV where
 | av (v : AV)
 | tup (l : List AV)
structure Pi where
 mu : Nat → Nat
 room : Nat → Nat
def SV.conc (π : Pi) : SV → Value
 | .bool b => .bool b
 | .int k n => .int k n
 | .str s => .string s
 | .ptr b o => .pointer (some ⟨π.mu b, o, none⟩)
 | .nilp => .pointer none
 | .sl b o n c op => .slice (some ⟨π.mu b, o, none⟩) n (if op then π.room b else c)
 | .nils => .slice none 0 0
 | .fn f caps => .func (.func f) #[] (caps.map fun q => .pointer (some ⟨π.mu q.1, q.2, none⟩)).toArray
 | .nili => .nilIface
 | .nilf => .nilFunc
def AV.conc (π : Pi) : AV → Value
 | .sc s => s.conc π
 | .agg l => .agg (l.map (SV.conc π)).toArray
def TV.conc (π : Pi) : TV → Value
 | .av v => v.conc π
 | .tup l => .tuple (l.map (AV.conc π)).toArray
def SV.all (p : Nat → Bool) : SV → Bool
 | .ptr b _ => p b
 | .sl b _ _ _ _ => p b
 | .fn _ caps => caps.all fun q => p q.1
 | _ => true
def AV.all (p : Nat → Bool) : AV → Bool
 | .sc s => s.all p
 | .agg l => l.all (SV.all p)
def TV.all (p : Nat → Bool) : TV → Bool
 | .av v => v.all p
 | .tup l => l.all (AV.all p)
def AV.cells : AV → List SV
 | .sc s => [s]
 | .agg l => l
structure Blk where
 cells : List SV
 elem : TypeId
 op : Bool
 z : Nat
 ro : Bool := false
abbrev below (n : Nat) : Nat → Bool := (Nat.blt · n)
abbrev Heap := List (Nat × Blk)
def hget : Heap → Nat → Option Blk
 | [], _ => none
 | (k, x) :: t, b => bif Nat.beq k b then some x else hget t b
def hset (x : Blk) (b : Nat) : Heap → Heap
 | [] => []
 | (k, y) :: t => bif Nat.beq k b then (k, x) :: t else (k, y) :: hset x b t
def hdel (b : Nat) : Heap → Heap
 | [] => []
 | (k, y) :: t => bif Nat.beq k b then hdel b t else (k, y) :: hdel b t
structure AS where
 heap : Heap
 next : Nat
 wr : List Nat
abbrev Tm := List (Nat × TV)
def tget (T : Tm) (b : Nat) : Option TV :=
 List.rec (motive := fun _ => Option TV) none (fun p _ ih => bif Nat.beq p.1 b then some p.2 else ih) T
def tset (T : Tm) (d : Option Nat) (v : TV) : Tm :=
 match d with
 | none => T
 | some d => (d, v) :: T
def ofSV : Value → Option SV
 | .bool b => some (.bool b)
 | .int k n => some (.int k n)
 | .string s => some (.str s)
 | .pointer none => some .nilp
 | .slice none 0 0 => some .nils
 | .func (.func f) first caps => bif Nat.beq first.size 0 && Nat.beq caps.size 0 then some (.fn f []) else none
 | .nilIface => some .nili
 | .nilFunc => some .nilf
 | _ => none
def jJG : List Value → Option (List SV)
 | [] => some []
 | v :: t => match ofSV v, jJG t with
  | some s, some l => some (s :: l)
  | _, _ => none
def ofValue : Value → Option AV
 | .agg cs => (jJG cs.toList).map .agg
 | v => (ofSV v).map .sc
def Opd (T : Tm) : Operand → Option TV
 | .tmp t => tget T t
 | .const v => (ofValue v).map .av
 | .func f => some (.av (.sc (.fn f [])))
 | _ => none
def Opv (T : Tm) (x : Operand) : Option AV :=
 match Opd T x with
 | some (.av v) => some v
 | _ => none
def Ops' (T : Tm) (x : Operand) : Option SV :=
 match Opd T x with
 | some (.av (.sc s)) => some s
 | _ => none
def Opvs (T : Tm) : List Operand → Option (List AV)
 | [] => some []
 | x :: t => match Opv T x, Opvs T t with
  | some v, some l => some (v :: l)
  | _, _ => none
def isAg (P : Program) (t : TypeId) : Option Bool :=
 match P.underlying t with
 | some (.struct _) => some true
 | some (.array _ _) => some true
 | some _ => some false
 | none => none
def szOf (P : Program) (t : TypeId) : Option Nat := (P.info? t).map (·.size)
def qo (P : Program) (t : TypeId) : Option TypeId :=
 match P.underlying t with
 | some (.slice e) => some e
 | _ => none
def cut (l : List SV) (off n : Nat) : Option (List SV) :=
 let r := (l.drop off).take n
 bif Nat.beq r.length n then some r else none
def qX (l : List SV) (off : Nat) (v : List SV) : List SV := l.take off ++ v ++ l.drop (off + v.length)
def jAf (st : AS) (cells : List SV) (elem : TypeId) (op : Bool) (z : Nat) : AS :=
 { heap := (st.next, ⟨cells, elem, op, z, false⟩) :: st.heap, next := st.next + 1, wr := st.wr }
def has (l : List Nat) (b : Nat) : Bool := l.any (Nat.beq b)
def jEI (l : List Nat) : List Nat → List Nat
 | [] => l
 | b :: t => bif has l b then jEI l t else b :: jEI l t
def touch (st : AS) (b : Nat) : List Nat := bif has st.wr b then st.wr else b :: st.wr
def jLh (P : Program) (st : AS) (t : TypeId) (a : SV) : Option TV :=
 match a with
 | .ptr b off =>
  match hget st.heap b, isAg P t, szOf P t with
  | some blk, some true, some n => (cut blk.cells off n).map fun l => .av (.agg l)
  | some blk, some false, _ => (blk.cells[off]?).map fun s => .av (.sc s)
  | _, _, _ => none
 | _ => none
def jLc (P : Program) (st : AS) (t : TypeId) (a : SV) (v : AV) : Option AS :=
 match a with
 | .ptr b off =>
  match hget st.heap b, szOf P t with
  | some blk, some n =>
   bif Nat.beq v.cells.length n && Nat.ble (off + n) blk.cells.length && !blk.ro then
    some { heap := hset { blk with cells := qX blk.cells off v.cells } b st.heap, next := st.next, wr := touch st b }
   else none
  | _, _ => none
 | _ => none
def jKo (op : BinOp) (k : IntKind) (a b : Int) : Option SV :=
 match op with
 | .add => some (.int k (k.wrap (a + b)))
 | .sub => some (.int k (k.wrap (a - b)))
 | .mul => some (.int k (k.wrap (a * b)))
 | .quo => if b = 0 then none else some (.int k (k.wrap (a.tdiv b)))
 | .rem => if b = 0 then none else some (.int k (a.tmod b))
 | .eql => some (.bool (a == b))
 | .neq => some (.bool (a != b))
 | .lss => some (.bool (a < b))
 | .leq => some (.bool (a ≤ b))
 | .gtr => some (.bool (a > b))
 | .geq => some (.bool (a ≥ b))
 | .and => some (.int k (Go.bits .and k a b))
 | .or => some (.int k (Go.bits .or k a b))
 | .xor => some (.int k (Go.bits .xor k a b))
 | .andNot => some (.int k (Go.bits .andNot k a b))
 | _ => none
def jBO : List SV → List SV → Option Bool
 | [], [] => some true
 | .int k a :: s, .int k' b :: t => if k = k' then (jBO s t).map fun r => (a == b) && r else none
 | _, _ => none
def jIo (op : BinOp) (k : IntKind) (a : Int) (k' : IntKind) (b : Int) : Option SV :=
 match op with
 | .shl => if b < 0 then none else some (.int k (k.wrap (a * 2 ^ min b.toNat k.bits)))
 | .shr => if b < 0 then none else some (.int k (a.fdiv (2 ^ min b.toNat k.bits)))
 | _ => if k = k' then jKo op k a b else none
def jLu (op : BinOp) (k : IntKind) (a : Int) (y : AV) : Option SV :=
 match y with
 | .sc (.int k' b) => jIo op k a k' b
 | _ => none
def jLs (op : BinOp) (a : ByteArray) (y : AV) : Option SV :=
 match y with
 | .sc (.str b) =>
  match op with
  | .eql => some (.bool (a.data.toList == b.data.toList))
  | .neq => some (.bool !(a.data.toList == b.data.toList))
  | .add => bif Nat.ble (a.size + b.size) 1000000 then some (.str (a ++ b)) else none
  | _ => none
 | _ => none
def jET (op : BinOp) (r : Bool) : Option SV :=
 match op with
 | .eql => some (.bool r)
 | .neq => some (.bool !r)
 | _ => none
def jKn (P : Program) (t : TypeId) : Bool := match P.underlying t with | some .bool => true | _ => false
def jCz (P : Program) (t : TypeId) : Option TypeId := match P.underlying t with | some (.pointer e) => some e | _ => none
def jNa (P : Program) (t : TypeId) : Bool := match P.underlying t with | some (.int _) => true | _ => false
def arrT (P : Program) (t : TypeId) : Option (Nat × TypeId) := match P.underlying t with | some (.array n e) => some (n, e) | _ => none
def jIp (P : Program) (op : BinOp) (t : TypeId) (a : Bool) (y : AV) : Option SV :=
 match y with
 | .sc (.bool b) => bif jKn P t then jET op (a == b) else none
 | _ => none
def jLt (P : Program) (op : BinOp) (t : TypeId) (b off : Nat) (y : AV) : Option SV :=
 match y with
 | .sc .nilp => match jCz P t with
  | some _ => jET op false
  | none => none
 | .sc (.ptr b' off') => match jCz P t with
  | some e => match szOf P e with
   | some z => bif Nat.beq b b' && Nat.beq off off' && Nat.ble 1 z then jET op true else none
   | none => none
  | none => none
 | _ => none
def jIn (P : Program) (op : BinOp) (t : TypeId) (y : AV) : Option SV :=
 match y with
 | .sc .nilp => match jCz P t with
  | some _ => jET op true
  | none => none
 | _ => none
def jNk (P : Program) (op : BinOp) (t : TypeId) (y : AV) : Option SV :=
 match y with
 | .sc .nils => match qo P t with
  | some _ => jET op false
  | none => none
 | _ => none
def jIm (P : Program) (op : BinOp) (t : TypeId) (y : AV) : Option SV :=
 match y with
 | .sc .nils => match qo P t with
  | some _ => jET op true
  | none => none
 | _ => none
def jQp (P : Program) (op : BinOp) (t : TypeId) (s : SV) (y : AV) : Option SV :=
 match s with
 | .int k a => jLu op k a y
 | .str a => jLs op a y
 | .bool a => jIp P op t a y
 | .ptr b off => jLt P op t b off y
 | .nilp => jIn P op t y
 | .sl _ _ _ _ _ => jNk P op t y
 | .nils => jIm P op t y
 | _ => none
def jQq (P : Program) (op : BinOp) (t : TypeId) (a : List SV) (y : AV) : Option SV :=
 match y with
 | .agg b =>
  match arrT P t with
  | some (n, e) =>
   match szOf P e with
   | some z =>
    bif jNa P e && Nat.beq z 1 && !(P.eqGuardType P.depth t) && Nat.beq a.length n && Nat.beq b.length n then
     (jBO a b).bind (jET op)
    else none
   | none => none
  | none => none
 | _ => none
def abin (P : Program) (op : BinOp) (t : TypeId) (x y : AV) : Option SV :=
 match x with
 | .sc s => jQp P op t s y
 | .agg a => jQq P op t a y
def aun (op : UnOp) (x : SV) : Option SV :=
 match op, x with
 | .not, .bool b => some (.bool !b)
 | .neg, .int k n => some (.int k (k.wrap (0 - n)))
 | _, _ => none
def jOw (P : Program) (src dst : TypeId) (x : SV) : Option SV :=
 match P.underlying src, P.underlying dst, x with
 | some _, some (.int k), .int _ n => some (.int k (k.wrap n))
 | some .string, some .string, .str s => some (.str s)
 | _, _, _ => none
def bnd (x : SV) (y : Nat) : Option Nat :=
 match x with
 | .int _ i => if 0 ≤ i ∧ i ≤ y then some i.toNat else none
 | _ => none
def hiB (hi : Option SV) (len : Nat) : Option Nat := match hi with | some v => bnd v len | none => some len
def loB (lo : Option SV) (h : Nat) : Option Nat := match lo with | some v => bnd v h | none => some 0
def aslice (P : Program) (st : AS) (t : TypeId) (x : SV) (lo hi : Option SV) : Option SV :=
 match P.underlying t, x with
 | some .string, .str s =>
  match hiB hi s.size with
  | some h => match loB lo h with
   | some l => some (.str (s.extract l h))
   | none => none
  | none => none
 | some (.slice e), .sl b off len c op =>
  match szOf P e, hget st.heap b with
  | some z, some blk =>
   match hiB hi len with
   | some h => match loB lo h with
    | some l =>
     if op then
      bif Nat.beq l 0 && Nat.beq off 0 && blk.op && Nat.beq blk.z z && Nat.ble 1 z && Nat.ble (len * z) blk.cells.length then some (.sl b off h c op) else none
     else bif Nat.ble len c then some (.sl b (if c = l then off else off + l * z) (h - l) (c - l) false) else none
    | none => none
   | none => none
  | _, _ => none
 | some (.slice e), .nils =>
  match szOf P e, hiB hi 0, loB lo 0 with
  | some _, some _, some _ => some .nils
  | _, _, _ => none
 | _, _ => none
def jID (st : AS) (z b off len c : Nat) (op : Bool) : Option Nat :=
 if op then
  match hget st.heap b with
  | some blk => bif Nat.beq off 0 && blk.op && Nat.beq blk.z z && Nat.ble 1 z && Nat.ble (len * z) blk.cells.length then some len else none
  | none => none
 else some c
def jHl (P : Program) (st : AS) (t : TypeId) (x : SV) (lo : Option SV) (hi mx : SV) : Option SV :=
 match x with
 | .sl b off len c op =>
  match qo P t with
  | some e => match szOf P e with
   | some z => match jID st z b off len c op with
    | some r => match bnd mx r with
     | some m => match bnd hi m with
      | some h => match loB lo h with
       | some l => some (.sl b (if m = l then off else off + l * z) (h - l) (m - l) false)
       | none => none
      | none => none
     | none => none
    | none => none
   | none => none
  | none => none
 | _ => none
def jHk (P : Program) (t : TypeId) (x : SV) : Option SV :=
 match x with
 | .ptr b off =>
  match arrT P t with
  | some (n, e) => match szOf P e with
   | some _ => some (.sl b off n n false)
   | none => none
  | none => none
 | _ => none
def jLk (P : Program) (t : TypeId) (x : SV) (f : Nat) : Option SV :=
 match P.underlying t, x with
 | some (.struct fs), .ptr b off =>
  match fs[f]? with
  | some fd => match szOf P fd.type with
   | some z => bif Nat.beq z 0 then none else some (.ptr b (off + fd.offset))
   | none => none
  | none => none
 | _, _ => none
def jHq (P : Program) (t : TypeId) (x : AV) (f : Nat) : Option AV :=
 match P.underlying t, x with
 | some (.struct fs), .agg cs =>
  match fs[f]? with
  | some fd => match szOf P fd.type with
   | some z => match isAg P fd.type with
    | some false => (cs[fd.offset]?).map .sc
    | some true => (cut cs fd.offset z).map .agg
    | none => none
   | none => none
  | none => none
 | _, _ => none
def jHo (P : Program) (t : TypeId) (x i : SV) : Option SV :=
 match i with
 | .int _ i =>
  match P.underlying t, x with
  | some (.array n e), .ptr b off =>
   match szOf P e with
   | some z => if 0 ≤ i ∧ i < n then some (.ptr b (off + i.toNat * z)) else none
   | none => none
  | some (.slice e), .sl b off len _ _ =>
   match szOf P e with
   | some z => if 0 ≤ i ∧ i < len then some (.ptr b (off + i.toNat * z)) else none
   | none => none
  | _, _ => none
 | _ => none
def jLj (P : Program) (t : TypeId) (x : AV) (i : SV) : Option AV :=
 match i with
 | .int _ i =>
  match P.underlying t, x with
  | some (.array n e), .agg cs =>
   match szOf P e, isAg P e with
   | some z, some false => if 0 ≤ i ∧ i < n then (cs[i.toNat * z]?).map .sc else none
   | some z, some true => if 0 ≤ i ∧ i < n then (cut cs (i.toNat * z) z).map .agg else none
   | _, _ => none
  | some .string, .sc (.str s) => if 0 ≤ i then (s[i.toNat]?).map fun b => .sc (.int .u8 b.toNat) else none
  | _, _ => none
 | _ => none
def alen (P : Program) (t : TypeId) (x : AV) : Option SV :=
 match P.underlying t, x with
 | some .string, .sc (.str s) => some (.int .i64 s.size)
 | some (.slice _), .sc (.sl _ _ n _ _) => some (.int .i64 n)
 | some (.slice _), .sc .nils => some (.int .i64 0)
 | _, _ => none
def jHp (place : Nat → Option (Nat × Nat)) (cells : List SV) : List (Nat × AV) → Option (List SV)
 | [] => some cells
 | (i, v) :: rest =>
  match place i with
  | none => none
  | some (off, size) =>
   bif Nat.beq v.cells.length size && Nat.ble (off + size) cells.length then jHp place (qX cells off v.cells) rest else none
def jAc (P : Program) : List Field → Option (List (Nat × Nat))
 | [] => some []
 | f :: t => match szOf P f.type, jAc P t with
  | some z, some l => some ((f.offset, z) :: l)
  | _, _ => none
def zeroCells (P : Program) (t : TypeId) : Option (List SV) :=
 match P.info? t with
 | some i => match i.zero with
  | some z => jJG z.cells.toList
  | none => none
 | none => none
def partsOf (T : Tm) : List (Nat × Operand) → Option (List (Nat × AV))
 | [] => some []
 | (i, x) :: t => match Opv T x, partsOf T t with
  | some v, some l => some ((i, v) :: l)
  | _, _ => none
def jLr (P : Program) (t : TypeId) (parts : List (Nat × AV)) : Option AV :=
 match zeroCells P t, P.underlying t with
 | some z, some (.struct fs) =>
  match jAc P fs.toList with
  | some pl => (jHp (fun i => pl[i]?) z parts).map .agg
  | none => none
 | some z, some (.array _ e) =>
  match szOf P e with
  | some s => (jHp (fun i => some (i * s, s)) z parts).map .agg
  | none => none
 | _, _ => none
def qC (z : List SV) : Nat → List SV
 | 0 => []
 | n + 1 => z ++ qC z n
def jFi (P : Program) (st : AS) (t : TypeId) (len : Nat) (parts : List (Nat × AV)) : Option (SV × AS) :=
 match qo P t with
 | some e => match szOf P e, zeroCells P e with
  | some s, some z =>
   bif Nat.ble (len * s) 16777216 && Nat.beq z.length s then
    match jHp (fun i => some (i * s, s)) (qC z len) parts with
    | some cells => some (.sl st.next 0 len len false, jAf st cells e false s)
    | none => none
   else none
  | _, _ => none
 | none => none
def jLv (P : Program) (st : AS) (t : TypeId) : Option (SV × AS) :=
 (zeroCells P t).map fun z => (.ptr st.next 0, jAf st z t false 0)
def abox (st : AS) (t : TypeId) (v : AV) : SV × AS := (.ptr st.next 0, jAf st v.cells t false 0)
def rowOf (st : AS) (z : Nat) : SV → Option (Nat × List SV)
 | .sl b off len _ _ => match hget st.heap b with
  | some blk => (cut blk.cells off (len * z)).map fun l => (len, l)
  | none => none
 | _ => none
def jHt (P : Program) (st : AS) (t : TypeId) (s x : SV) : Option (SV × AS) :=
 match qo P t with
 | some e => match P.info? e, zeroCells P e with
  | some i, some zc => match rowOf st i.size x with
   | some (n, new) =>
    bif Nat.beq zc.length i.size && Nat.ble 1 i.size && Nat.ble i.bytes 1000000 && Nat.ble n 1000000 then
     match s with
     | .nils =>
      bif Nat.beq n 0 then none
      else some (.sl st.next 0 n 0 true, jAf st new e true i.size)
     | .sl b off len c false =>
      match hget st.heap b with
      | some blk =>
       bif Nat.ble len 1000000 then
        if len + n ≤ c then
         bif Nat.beq off 0 && Nat.beq blk.elem e && Nat.ble (len * i.size + n * i.size) blk.cells.length && !blk.ro then
          some (.sl b 0 (len + n) c false, { heap := hset { blk with cells := qX blk.cells (len * i.size) new } b st.heap, next := st.next, wr := touch st b })
         else none
        else match cut blk.cells off (len * i.size) with
         | some old => some (.sl st.next 0 (len + n) 0 true, jAf st (old ++ new) e true i.size)
         | none => none
       else none
      | none => none
     | .sl b off len c true =>
      match hget st.heap b with
      | some blk =>
       bif Nat.beq off 0 && Nat.beq c 0 && blk.op && Nat.beq blk.z i.size && Nat.beq (len * i.size) blk.cells.length && Nat.ble len 1000000 && Nat.beq blk.elem e && !blk.ro then
        some (.sl st.next 0 (len + n) 0 true,
         { heap := (st.next, ⟨blk.cells ++ new, e, true, i.size, false⟩) :: hdel b st.heap, next := st.next + 1, wr := touch st b })
       else none
      | none => none
     | _ => none
    else none
   | none => none
  | _, _ => none
 | none => none
def byteOf : SV → Option UInt8
 | .int .u8 n => if 0 ≤ n ∧ n < 256 then some (UInt8.ofNat n.toNat) else none
 | _ => none
def bytesOf : List SV → Option (List UInt8)
 | [] => some []
 | s :: t => match byteOf s, bytesOf t with
  | some b, some l => some (b :: l)
  | _, _ => none
def isByte (P : Program) (t : TypeId) : Bool :=
 match P.underlying t with
 | some (.slice e) => match P.underlying e with
  | some (.int .u8) => true
  | _ => false
 | _ => false
def jGZ (P : Program) (t : TypeId) : Bool := match P.underlying t with | some .string => true | _ => false
def jIb (P : Program) (t : TypeId) : Bool := match P.underlying t with | some .unsafePointer => true | _ => false
def jLo (P : Program) (st : AS) (src dst : TypeId) (x : SV) : Option (SV × AS) :=
 bif isByte P src && jGZ P dst then
  match rowOf st 1 x with
  | some (_, l) => match bytesOf l with
   | some b => some (.str ⟨b.toArray⟩, st)
   | none => none
  | none => none
 else none
def jLm (P : Program) (st : AS) (src dst : TypeId) (s : ByteArray) : Option (SV × AS) :=
 match qo P dst with
 | some e =>
  bif jGZ P src && isByte P dst && Nat.ble s.size 1000000 then
   some (.sl st.next 0 s.size 0 true, { heap := (st.next, ⟨s.data.toList.map fun b => .int .u8 b.toNat, e, true, 1, true⟩) :: st.heap, next := st.next + 1, wr := st.wr })
  else none
 | none => none
def jNj (P : Program) (st : AS) (src dst : TypeId) (b off : Nat) : Option (SV × AS) :=
 match hget st.heap b with
 | some blk =>
  bif !blk.op && Nat.blt off blk.cells.length then
   match jCz P src with
   | some u => match szOf P u with
    | some z => bif Nat.ble 1 z && jIb P dst then some (.ptr b off, st) else none
    | none => none
   | none => match jCz P dst with
    | some u => match szOf P u with
     | some z => bif Nat.ble 1 z && jIb P src && liesAt P P.depth blk.elem (blk.cells.length / P.cellsOf blk.elem) off u 1 then some (.ptr b off, st) else none
     | none => none
    | none => none
  else none
 | none => none
def jLn (P : Program) (st : AS) (src dst : TypeId) (x : SV) : Option (SV × AS) :=
 match x with
 | .str s => jLm P st src dst s
 | .ptr b off => jNj P st src dst b off
 | .sl b off n c op => jLo P st src dst (.sl b off n c op)
 | _ => none
def jOs (P : Program) (st : AS) (t : TypeId) (l c : SV) : Option (SV × AS) :=
 match qo P t with
 | some e => match l, c with
  | .int _ n, .int _ m =>
   match P.info? e, zeroCells P e with
   | some i, some z =>
    bif Nat.beq z.length i.size && Nat.ble i.bytes 1000000 && Nat.ble m.toNat 1000000 && decide (0 ≤ n) && decide (n ≤ m) then
     some (.sl st.next 0 n.toNat m.toNat false, jAf st (qC z m.toNat) e false i.size)
    else none
   | _, _ => none
  | _, _ => none
 | none => none
def jFk (P : Program) (st : AS) (t : TypeId) (s : SV) (x : ByteArray) : Option (SV × AS) :=
 match qo P t with
 | some e => match P.info? e, zeroCells P e with
  | some i, some zc =>
   bif Nat.beq zc.length 1 && Nat.beq i.size 1 && Nat.ble i.bytes 1000000 && Nat.ble x.size 1000000 then
    let new : List SV := x.data.toList.map fun b => .int .u8 b.toNat
    match s with
    | .nils => bif Nat.beq x.size 0 then none else some (.sl st.next 0 x.size 0 true, jAf st new e true 1)
    | .sl b off len c true =>
     match hget st.heap b with
     | some blk =>
      bif Nat.beq off 0 && Nat.beq c 0 && blk.op && !blk.ro && Nat.beq blk.z 1 && Nat.beq len blk.cells.length && Nat.ble len 1000000 && Nat.beq blk.elem e then
       some (.sl st.next 0 (len + x.size) 0 true,
        { heap := (st.next, ⟨blk.cells ++ new, e, true, 1, false⟩) :: hdel b st.heap, next := st.next + 1, wr := touch st b })
      else none
     | none => none
    | _ => none
   else none
  | _, _ => none
 | none => none
def jQZ (P : Program) (pt e : TypeId) : Bool := match jCz P pt with | some e' => Nat.beq e' e | none => false
def jFd (P : Program) (st : AS) (pt : TypeId) (p : SV) (l : SV) : Option (SV × AS) :=
 match p, l with
 | .ptr b off, .int .i64 n =>
  match hget st.heap b with
  | some blk => match cut blk.cells 0 n.toNat with
   | some r => match bytesOf r with
    | some bs =>
     bif decide (1 ≤ n) && Nat.ble n.toNat 1000000 && Nat.beq off 0 && !blk.ro && jQZ P pt blk.elem && Nat.beq (P.cellsOf blk.elem) 1 then
      some (.str ⟨bs.toArray⟩, { heap := hset { blk with ro := true } b st.heap, next := st.next, wr := touch st b })
     else none
    | none => none
   | none => none
  | none => none
 | _, _ => none
def jGL (T : Tm) : List Operand → Option (List (Nat × Nat))
 | [] => some []
 | x :: t => match Ops' T x, jGL T t with
  | some (.ptr b off), some l => some ((b, off) :: l)
  | _, _ => none
def gV (st : AS) (x : Option SV) : Option (TV × AS) := x.map fun s => (.av (.sc s), st)
def gU (st : AS) (x : Option AV) : Option (TV × AS) := x.map fun s => (.av s, st)
def gN (x : Option (SV × AS)) : Option (TV × AS) := x.map fun s => (.av (.sc s.1), s.2)
def jJH (T : Tm) (st : AS) (x : Operand) : Option (TV × AS) := (Opd T x).map fun y => (y, st)
def jPj (T : Tm) (st : AS) (c a b : Operand) : Option (TV × AS) :=
 match Ops' T c with
 | some (.bool true) => jJH T st a
 | some (.bool false) => jJH T st b
 | _ => none
def oBox (T : Tm) (st : AS) (e : TypeId) (x : Operand) : Option (TV × AS) := (Opv T x).map fun y => (.av (.sc (abox st e y).1), (abox st e y).2)
def jNV (P : Program) (T : Tm) (st : AS) (t : TypeId) (ps : Array (Nat × Operand)) : Option (TV × AS) := (partsOf T ps.toList).bind fun l => gU st (jLr P t l)
def jIS (P : Program) (T : Tm) (st : AS) (t : TypeId) (len : Nat) (ps : Array (Nat × Operand)) : Option (TV × AS) := (partsOf T ps.toList).bind fun l => gN (jFi P st t len l)
def jPl (P : Program) (T : Tm) (st : AS) (t : TypeId) (a : Operand) : Option (TV × AS) := (Ops' T a).bind fun a => (jLh P st t a).map fun y => (y, st)
def jNR (P : Program) (T : Tm) (st : AS) (t : TypeId) (a x : Operand) : Option (TV × AS) := (Ops' T a).bind fun a => (Opv T x).bind fun x => (jLc P st t a x).map fun s => (.tup [], s)
def oNil (T : Tm) (st : AS) (x : Operand) : Option (TV × AS) :=
 match Ops' T x with
 | some (.ptr b off) => some (.av (.sc (.ptr b off)), st)
 | _ => none
def oBin (P : Program) (T : Tm) (st : AS) (op : BinOp) (t : TypeId) (x y : Operand) : Option (TV × AS) := (Opv T x).bind fun x => (Opv T y).bind fun y => gV st (abin P op t x y)
def oUn (T : Tm) (st : AS) (op : UnOp) (x : Operand) : Option (TV × AS) := (Ops' T x).bind fun x => gV st (aun op x)
def jPo (P : Program) (T : Tm) (st : AS) (s d : TypeId) (x : Operand) : Option (TV × AS) := (Ops' T x).bind fun x =>
 match jOw P s d x with
 | some r => gV st (some r)
 | none => gN (jLn P st s d x)
def jPm (T : Tm) (st : AS) (fn : Fn) (first caps : Array Operand) : Option (TV × AS) :=
 match fn with
 | .func f => bif Nat.beq first.size 0 then (jGL T caps.toList).map fun l => (.av (.sc (.fn f l)), st) else none
 | _ => none
def jPk (P : Program) (T : Tm) (st : AS) (t : TypeId) (l c : Operand) : Option (TV × AS) := (Ops' T l).bind fun l => (Ops' T c).bind fun c => gN (jOs P st t l c)
def jNU (P : Program) (T : Tm) (st : AS) (t : TypeId) (x : Operand) (f : Nat) : Option (TV × AS) := (Opv T x).bind fun x => gU st (jHq P t x f)
def optS (T : Tm) (x : Option Operand) : Option (Option SV) :=
 match x with
 | none => some none
 | some y => (Ops' T y).map some
def jNS (P : Program) (T : Tm) (st : AS) (t : TypeId) (x : Operand) (lo hi mx : Option Operand) : Option (TV × AS) :=
 (Ops' T x).bind fun x => (optS T lo).bind fun lo => (optS T hi).bind fun hi =>
  match mx with
  | none => match aslice P st t x lo hi with
   | some r => gV st (some r)
   | none => match lo, hi with
    | none, none => gV st (jHk P t x)
    | _, _ => none
  | some m => (Ops' T m).bind fun m => match hi with
   | some h => gV st (jHl P st t x lo h m)
   | none => none
def jKa (P : Program) (T : Tm) (st : AS) (t : TypeId) (x : Operand) (f : Nat) : Option (TV × AS) := (Ops' T x).bind fun x => gV st (jLk P t x f)
def jKZ (P : Program) (T : Tm) (st : AS) (t : TypeId) (x i : Operand) : Option (TV × AS) := (Ops' T x).bind fun x => (Ops' T i).bind fun i => gV st (jHo P t x i)
def jNT (P : Program) (T : Tm) (st : AS) (t : TypeId) (x i : Operand) : Option (TV × AS) := (Opv T x).bind fun x => (Ops' T i).bind fun i => gU st (jLj P t x i)
def jIQ (T : Tm) (st : AS) (x : Operand) (i : Nat) : Option (TV × AS) :=
 match Opd T x with
 | some (.tup l) => gU st (l[i]?)
 | _ => none
def jPp (call : FuncId → List AV → AS → Option (TV × AS)) (T : Tm) (st : AS) (x : Operand) (args : List Operand) : Option (TV × AS) :=
 match Ops' T x with
 | some (.fn f caps) => (Opvs T args).bind fun l => call f (l ++ caps.map fun q => .sc (.ptr q.1 q.2)) st
 | _ => none
def oLen (P : Program) (T : Tm) (st : AS) (ts : List TypeId) (args : List Operand) : Option (TV × AS) :=
 match ts, args with
 | t :: _, [x] => (Opv T x).bind fun x => gV st (alen P t x)
 | _, _ => none
def jKc (P : Program) (T : Tm) (st : AS) (ts : List TypeId) (args : List Operand) : Option (TV × AS) :=
 match ts, args with
 | [t, t'], [s, x] => (Ops' T s).bind fun s => (Ops' T x).bind fun x =>
  match x with
  | .str x => bif jGZ P t' then gN (jFk P st t s x) else none
  | x => bif Nat.beq t t' then gN (jHt P st t s x) else none
 | _, _ => none
def oMax (T : Tm) (st : AS) (mx : Bool) (args : List Operand) : Option (TV × AS) :=
 match args with
 | [x, y] => match Ops' T x, Ops' T y with
  | some (.int k a), some (.int _ b) => gV st (some (.int k (bif mx then (if b > a then b else a) else (if b < a then b else a))))
  | _, _ => none
 | _ => none
def jPn (T : Tm) (st : AS) (args : List Operand) : Option (TV × AS) :=
 match args with
 | [x] => match Ops' T x with
  | some (.sl b off len _ true) => match hget st.heap b with
   | some blk => bif blk.op && Nat.ble 1 len && Nat.beq off 0 && Nat.beq blk.z 1 && Nat.ble len blk.cells.length then gV st (some (.ptr b off)) else none
   | none => none
  | _ => none
 | _ => none
def jIP (P : Program) (T : Tm) (st : AS) (ts : List TypeId) (args : List Operand) : Option (TV × AS) :=
 match ts, args with
 | [pt, _], [x, y] => (Ops' T x).bind fun x => (Ops' T y).bind fun y => gN (jFd P st pt x y)
 | _, _ => none
def jIR (P : Program) (T : Tm) (st : AS) (b : Builtin) (ts : List TypeId) (args : List Operand) : Option (TV × AS) :=
 match b with
 | .len => oLen P T st ts args
 | .append => jKc P T st ts args
 | .max => oMax T st true args
 | .min => oMax T st false args
 | .unsafeSliceData => jPn T st args
 | .unsafeString => jIP P T st ts args
 | _ => none
def jKb (P : Program) (call : FuncId → List AV → AS → Option (TV × AS)) (T : Tm) (st : AS) (c : Call) : Option (TV × AS) :=
 match c.callee with
 | .value x => jPp call T st x c.args.toList
 | .builtin b => jIR P T st b c.argTypes.toList c.args.toList
 | _ => none
def aop (P : Program) (call : FuncId → List AV → AS → Option (TV × AS)) (T : Tm) (o : Op) (st : AS) : Option (TV × AS) :=
 match o with
 | .move x => jJH T st x
 | .assign x => jJH T st x
 | .pick c a b => jPj T st c a b
 | .alloc e => gN (jLv P st e)
 | .box e x => oBox T st e x
 | .build t ps => jNV P T st t ps
 | .buildSlice t len ps => jIS P T st t len ps
 | .load t a => jPl P T st t a
 | .store t a x => jNR P T st t a x
 | .nilCheck x => oNil T st x
 | .binOp op t x y _ => oBin P T st op t x y
 | .unOp op _ x => oUn T st op x
 | .convert s d x => jPo P T st s d x
 | .makeFunc fn first caps => jPm T st fn first caps
 | .makeSlice t l c => jPk P T st t l c
 | .field t x f => jNU P T st t x f
 | .slice t x lo hi mx => jNS P T st t x lo hi mx
 | .fieldAddr t x f => jKa P T st t x f
 | .indexAddr t x i => jKZ P T st t x i
 | .index t x i => jNT P T st t x i
 | .extract x i => jIQ T st x i
 | .call c => jKb P call T st c
 | _ => none
def jOr (ops : List Oper) (T : Tm) (o : Oper) : Option Bool :=
 match o.guard with
 | none => some true
 | some (j, want) =>
  match (ops[j]?).bind (·.dst) with
  | none => some false
  | some d => match tget T d with
   | none => none
   | some (.av (.sc (.bool b))) => some (b == want)
   | some _ => some false
def fNat {α : Type} (n : Nat) (k : Nat → α) : α := match n with
 | 0 => k 0
 | m + 1 => k (m + 1)
def fAS {α : Type} (st : AS) (k : AS → α) : α := match st with
 | ⟨h, nx, wr⟩ => fNat nx fun nx => k ⟨h, nx, wr⟩
def jMs (n : Nat) (o : Oper) : Bool := match o.dst with | some d => Nat.blt d n | none => true
def jLf (P : Program) (n : Nat) (call : FuncId → List AV → AS → Option (TV × AS)) (ops : List Oper) (T : Tm) (o : Oper) (st : AS) : Option (TV × AS) :=
 match jOr ops T o with
 | some true => match aop P call T o.op st with
  | some (v, st') => fAS st' fun st' => bif v.all (below st'.next) && jMs n o then some (v, st') else none
  | none => none
 | some false => bif jMs n o then some (.tup [], st) else none
 | none => none
def aseq (P : Program) (n : Nat) (call : FuncId → List AV → AS → Option (TV × AS)) (ops : List Oper) : List Oper → Tm → AS → Option (Tm × AS)
 | [], T, st => some (T, st)
 | o :: rest, T, st => match jLf P n call ops T o st with
  | some (v, st') => aseq P n call ops rest (tset T o.dst v) st'
  | none => none
structure RS where
 i : Nat
 dst : Option Nat
 v : TV
 blks : Heap
 wr : List Nat
 seen : Heap
 s : Nat
 e : Nat
def vW (m i : Nat) : Bool := Nat.beq ((m >>> i) % 2) 1
def jDQ (acc : List Nat) : List Edge → Nat
 | [] => 0
 | e :: t => bif Region.binds .any e then (1 <<< e.on) ||| acc.getD e.on 0 ||| jDQ acc t else jDQ acc t
def waitsFor (acc : List Nat) (o : Oper) : Nat := jDQ acc o.after.toList
def jAK (acc : List Nat) : List Oper → List Nat
 | [] => acc
 | o :: t => jAK (acc ++ [waitsFor acc o]) t
def zN (ops : List Oper) : List Nat := jAK [] ops
def dstsOf : List Oper → List Nat
 | [] => []
 | o :: t => match o.dst with
  | some d => d :: dstsOf t
  | none => dstsOf t
def jBc (pr : List Nat) (i : Nat) : Nat → List Oper → List Nat
 | _, [] => []
 | j, o :: t => bif !(Nat.beq j i) && !(vW (pr.getD j 0) i) then
   match o.dst with
   | some d => d :: jBc pr i (j + 1) t
   | none => jBc pr i (j + 1) t
  else jBc pr i (j + 1) t
def tcut (ds : List Nat) : Tm → Tm
 | [] => []
 | (k, y) :: t => bif has ds k then tcut ds t else (k, y) :: tcut ds t
def hcut (ds : List Nat) : Heap → Heap
 | [] => []
 | (k, y) :: t => bif has ds k then hcut ds t else (k, y) :: hcut ds t
def jOX (ds : List Nat) (h : Heap) : Heap := match ds with
 | [] => h
 | ds => hcut ds h
def jEO (T : Tm) (m : Nat) : List RS → Tm
 | [] => T
 | r :: t => bif vW m r.i then tset (jEO T m t) r.dst r.v else jEO T m t
def jCL (h : Heap) (m : Nat) : List RS → Heap
 | [] => h
 | r :: t => bif vW m r.i then r.blks ++ jOX r.wr (jCL h m t) else jOX r.wr (jCL h m t)
def jHQ (n : Nat) (wr : List Nat) : Heap → Heap
 | [] => []
 | (k, y) :: t => bif Nat.ble n k || has wr k then (k, y) :: jHQ n wr t else jHQ n wr t
def older (n : Nat) : List Nat → List Nat
 | [] => []
 | b :: t => bif Nat.blt b n then b :: older n t else older n t
def jJX (h : Heap) : Option SV → Heap
 | some (.ptr b _) => match hget h b with
  | some k => [(b, k)]
  | none => []
 | some (.sl b _ _ _ _) => match hget h b with
  | some k => [(b, k)]
  | none => []
 | _ => []
def jKF (T : Tm) (o : Oper) (h : Heap) : Heap :=
 match o.op with
 | .load _ a => jJX h (Ops' T a)
 | .store _ a _ => jJX h (Ops' T a)
 | .slice _ a _ _ _ => jJX h (Ops' T a)
 | .convert _ _ a => jJX h (Ops' T a)
 | .call c => match c.callee with
  | .builtin .len => []
  | _ => h
 | _ => []
def okId (n m : Nat) (res : List RS) (s e b : Nat) : Bool :=
 Nat.blt b n || (Nat.ble s b && Nat.blt b e) || res.any fun r => vW m r.i && Nat.ble r.s b && Nat.blt b r.e
def apart (m : Nat) (wr : List Nat) (res : List RS) : Bool :=
 res.all fun r => vW m r.i || wr.all fun b => (match hget r.seen b with | none => true | some _ => false) && !(has r.wr b)
def jJf (P : Program) (n : Nat) (call : FuncId → List AV → AS → Option (TV × AS)) (ops : List Oper) (pr : List Nat) (T : Tm) (h : Heap) (n0 : Nat) :
  (i : Nat) → List Oper → List RS → Nat → Option (List RS × Nat)
 | _, [], res, nx => some (res, nx)
 | i, o :: rest, res, nx =>
  let m := pr.getD i 0
  let Ti := jEO (tcut (jBc pr i 0 ops) T) m res
  let hi := jKF Ti o (jCL h m res)
  match jLf P n call ops Ti o { heap := hi, next := nx, wr := [] } with
  | some (v, st) =>
   let wr := older nx st.wr
   let B := jHQ nx wr st.heap
   let ok := okId n0 m res nx st.next
   bif Nat.ble nx st.next && v.all ok && wr.all ok && (B.all fun x => Nat.blt x.1 st.next && x.2.cells.all (SV.all ok)) && apart m wr res then
    jJf P n call ops pr T h n0 (i + 1) rest (⟨i, o.dst, v, B, wr, hi, nx, st.next⟩ :: res) st.next
   else none
  | none => none
def nodup : List Nat → Bool
 | [] => true
 | x :: t => !(has t x) && nodup t
def jAM : Nat → List Oper → Bool
 | _, [] => true
 | i, o :: t => (o.after.toList.all fun e => !(Region.binds .any e) || Nat.blt e.on i) && jAM (i + 1) t
def full (n : Nat) : Nat := 2 ^ n - 1
def jFF (n : Nat) : List RS → List Nat
 | [] => []
 | r :: t => older n r.wr ++ jFF n t
def jHm (P : Program) (n : Nat) (call : FuncId → List AV → AS → Option (TV × AS)) (ops : List Oper) (draw : Bool) (T : Tm) (st : AS) : Option (Tm × AS) :=
 bif draw then
  bif nodup (dstsOf ops) && jAM 0 ops then
   match jJf P n call ops (zN ops) T st.heap st.next 0 ops [] st.next with
   | some (res, nx) => some (jEO T (full ops.length) res, { heap := jCL st.heap (full ops.length) res, next := nx, wr := jEI st.wr (jFF st.next res) })
   | none => none
  else none
 else aseq P n call ops ops T st
inductive Ex where
 | normal
 | exit (id : Nat)
 | ret
def jLg (body : Tm → AS → Option (Ex × Tm × AS)) : Nat → Tm → AS → Option (Ex × Tm × AS)
 | 0, _, _ => none
 | k + 1, T, st => match body T st with
  | some (.normal, T', st') => jLg body k T' st'
  | r => r
def jAY (P : Program) (n N : Nat) (call : FuncId → List AV → AS → Option (TV × AS)) : Code → Tm → AS → Option (Ex × Tm × AS)
 | .skip, T, st => some (.normal, T, st)
 | .ret, T, st => some (.ret, T, st)
 | .exit id, T, st => some (.exit id, T, st)
 | .seq a b, T, st => match jAY P n N call a T st with
  | some (.normal, T', st') => jAY P n N call b T' st'
  | r => r
 | .cond c x y, T, st => match Ops' T c with
  | some (.bool true) => jAY P n N call x T st
  | some (.bool false) => jAY P n N call y T st
  | _ => none
 | .block id x, T, st => match jAY P n N call x T st with
  | some (.exit id', T', st') => bif Nat.beq id' id then some (.normal, T', st') else some (.exit id', T', st')
  | r => r
 | .loop x, T, st => jLg (jAY P n N call x) N T st
 | .region _ ops draw, T, st => (jHm P n call ops.toList draw T st).map fun r => (.normal, r.1, r.2)
 | _, _, _ => none
def jDE (P : Program) (n N : Nat) (call : FuncId → List AV → AS → Option (TV × AS)) : Code → Tm → AS → List (FuncId × List AV) → Option (Ex × Tm × AS × List (FuncId × List AV))
 | .seq a b, T, st, D => match jDE P n N call a T st D with
  | some (.normal, T', st', D') => jDE P n N call b T' st' D'
  | r => r
 | .region id ops draw, T, st, D =>
  match ops.toList.getLast? with
  | some { op := .defer c, guard := none, dst := none, .. } =>
   match draw, c.callee with
   | false, .value (.func f) =>
    match aseq P n call ops.toList ops.toList.dropLast T st with
    | some (T', st') => (Opvs T' c.args.toList).map fun l => (.normal, T', st', (f, l) :: D)
    | none => none
   | _, _ => none
  | _ => (jAY P n N call (.region id ops draw) T st).map fun r => (r.1, r.2.1, r.2.2, D)
 | c, T, st, D => (jAY P n N call c T st).map fun r => (r.1, r.2.1, r.2.2, D)
def jEH (dcall : FuncId → List AV → AS → Option AS) : List (FuncId × List AV) → AS → Option AS
 | [], st => some st
 | (f, l) :: D, st => match dcall f l st with
  | some st' => jEH dcall D st'
  | none => none
def jJc : Nat → List AV → Tm
 | _, [] => []
 | i, v :: t => (i, .av v) :: jJc (i + 1) t
def jGE (P : Program) (st : AS) (T : Tm) : List ResultVar → Option (List AV)
 | [] => some []
 | .tmp t :: rest => match tget T t, jGE P st T rest with
  | some (.av v), some l => some (v :: l)
  | _, _ => none
 | .cell a t :: rest => match tget T a, jGE P st T rest with
  | some (.av (.sc p)), some l => match jLh P st t p with
   | some (.av v) => some (v :: l)
   | _ => none
  | _, _ => none
def jHT : List SV → List Nat
 | [] => []
 | .ptr b _ :: t => b :: jHT t
 | .sl b _ _ _ _ :: t => b :: jHT t
 | .fn _ caps :: t => caps.map (·.1) ++ jHT t
 | _ :: t => jHT t
def idsV : TV → List Nat
 | .av v => jHT v.cells
 | .tup l => l.flatMap fun v => jHT v.cells
def jDg (h : Heap) (n : Nat) : Nat → List Nat → List Nat → List Nat
 | 0, _, acc => acc
 | _, [], acc => acc
 | k + 1, b :: todo, acc =>
  bif Nat.ble n b && !(acc.any (Nat.beq b)) then
   match hget h b with
   | some blk => jDg h n k (jHT blk.cells ++ todo) (b :: acc)
   | none => jDg h n k todo acc
  else jDg h n k todo acc
def keep (n : Nat) (ids : List Nat) : Heap → Heap
 | [] => []
 | (k, y) :: t => bif Nat.ble n k then bif has ids k then (k, y) :: keep n ids t else keep n ids t else []
def tvOf : List AV → TV
 | [x] => .av x
 | l => .tup l
def done : Ex → Bool
 | .exit _ => false
 | _ => true
def jLq (P : Program) (N : Nat) (ext : FuncId → List AV → AS → Option (TV × AS)) (dcall : FuncId → List AV → AS → Option AS) : Nat → FuncId → List AV → AS → Option (TV × AS)
 | 0, _, _, _ => none
 | k + 1, f, args, st =>
  match ext f args st with
  | some r => some r
  | none =>
  match P.funcs[f]? with
  | none => none
  | some fn =>
   match fn.body with
   | none => none
   | some c =>
    bif Nat.ble args.length fn.ntmps && !(fn.name == "runtime.NumGoroutine") then
     match jDE P fn.ntmps N (jLq P N ext dcall k) c (jJc 0 args) { heap := st.heap, next := st.next, wr := [] } [] with
     | some (e, T, st1, D) =>
      bif done e then
       match jEH dcall D st1 with
       | some st' =>
        match jGE P st' T fn.results.toList with
        | some vs =>
         let v : TV := tvOf vs
         match older st.next st'.wr with
         | [] => some (v, { heap := keep st.next (jDg st'.heap st.next 1000 (idsV v) []) st'.heap ++ st.heap, next := st'.next, wr := st.wr })
         | wr => some (v, { heap := st'.heap, next := st'.next, wr := jEI st.wr wr })
        | none => none
       | none => none
      else none
     | none => none
    else none
end
end Go.Ev
namespace Go.Ev
theorem jDu {l : List Nat} {b : Nat} : has l b = true ↔ b ∈ l := by
 simp only [has, List.any_eq_true]
 constructor
 ·
  rintro ⟨x, hx, h⟩; rw [Nat.beq_eq] at h; exact h ▸ hx
 ·
  intro h; exact ⟨b, h, Nat.beq_refl b⟩
theorem jAI {α : Type} (a b : Nat) (x y : α) : (bif Nat.beq a b then x else y) = if a = b then x else y := by
 by_cases h : a = b
 ·
  subst h; simp
 ·
  rw [if_neg h]; have : Nat.beq a b = false := by rw [← Bool.not_eq_true, Nat.beq_eq]; exact h
  rw [this]; rfl
theorem jBH {α : Type} (l : List Nat) (b : Nat) (x y : α) : (bif has l b then x else y) = if b ∈ l then x else y := by
 by_cases h : b ∈ l
 ·
  rw [jDu.2 h, if_pos h]; rfl
 ·
  rw [if_neg h]; have : has l b = false := by rw [← Bool.not_eq_true, jDu]; exact h
  rw [this]; rfl
theorem jm (k : Nat) (x : Blk) (t : Heap) (b : Nat) : hget ((k, x) :: t) b = if k = b then some x else hget t b := by
 rw [hget, jAI]
theorem jCb (x : Blk) (b c : Nat) (h : Heap) : hget (hset x b h) c = if b = c ∧ (hget h b).isSome = true then some x else hget h c := by
 induction h with
 | nil => simp [hset, hget]
 | cons p t ih =>
  obtain ⟨k, y⟩ := p
  rw [hset, jAI]
  by_cases hk : k = b
  ·
   subst hk; rw [if_pos rfl, jm, jm, jm]
   by_cases hc : k = c
   ·
    subst hc; simp
   ·
    simp [hc]
  ·
   rw [if_neg hk, jm, jm, jm, ih, if_neg hk]
   by_cases hc : k = c
   ·
    subst hc; rw [if_pos rfl, if_pos rfl, if_neg]; rintro ⟨h, -⟩; exact hk h.symm
   ·
    rw [if_neg hc, if_neg hc]
theorem jAu (b c : Nat) (h : Heap) : hget (hdel b h) c = if b = c then none else hget h c := by
 induction h with
 | nil => simp [hdel, hget]
 | cons p t ih =>
  obtain ⟨k, y⟩ := p
  rw [hdel, jAI]
  by_cases hk : k = b
  ·
   subst hk; rw [if_pos rfl, ih, jm]; by_cases hc : k = c <;> simp [hc]
  ·
   rw [if_neg hk, jm, jm, ih]
   by_cases hc : k = c
   ·
    subst hc; rw [if_pos rfl, if_pos rfl, if_neg (fun h => hk h.symm)]
   ·
    rw [if_neg hc, if_neg hc]
theorem jBF (h g : Heap) (b : Nat) : hget (h ++ g) b = (hget h b).or (hget g b) := by
 induction h with
 | nil => simp [hget]
 | cons p t ih =>
  obtain ⟨k, y⟩ := p
  rw [List.cons_append, jm, jm, ih]
  split <;> simp
theorem jEp (n : Nat) (wr : List Nat) (h : Heap) (b : Nat) : hget (jHQ n wr h) b = if n ≤ b ∨ b ∈ wr then hget h b else none := by
 induction h with
 | nil => simp [jHQ, hget]
 | cons p t ih =>
  obtain ⟨k, y⟩ := p
  have hc : (Nat.ble n k || has wr k) = true ↔ (n ≤ k ∨ k ∈ wr) := by rw [Bool.or_eq_true, Nat.ble_eq, jDu]
  rw [jHQ]
  by_cases hk : n ≤ k ∨ k ∈ wr
  ·
   rw [hc.2 hk, cond_true, jm, jm, ih]
   by_cases e : k = b
   ·
    subst e; rw [if_pos rfl, if_pos hk, if_pos rfl]
   ·
    rw [if_neg e, if_neg e]
  ·
   have h0 : (Nat.ble n k || has wr k) = false := by rw [← Bool.not_eq_true, hc]; exact hk
   rw [h0, cond_false, ih, jm]
   by_cases e : k = b
   ·
    subst e; rw [if_neg hk, if_neg hk]
   ·
    rw [if_neg e]
theorem jGb {n : Nat} {ids : List Nat} {h : Heap} {b : Nat} {x : Blk} (hb : hget (keep n ids h) b = some x) : hget h b = some x ∧ n ≤ b := by
 have hmem : ∀ {h : Heap} {x : Blk}, hget (keep n ids h) b = some x → b ∈ ids := by
  intro h
  induction h with
  | nil => intro x hb; simp [keep, hget] at hb
  | cons p t ih =>
   obtain ⟨k, y⟩ := p
   intro x hb
   rw [keep] at hb
   cases hn : Nat.ble n k
   ·
    rw [hn, cond_false] at hb; simp [hget] at hb
   ·
    rw [hn, cond_true, jBH] at hb
    split at hb
    ·
     rename_i hk
     rw [jm] at hb
     split at hb
     ·
      rename_i e; exact e ▸ hk
     ·
      exact ih hb
    ·
     exact ih hb
 have hbm := hmem hb
 induction h with
 | nil => simp [keep, hget] at hb
 | cons p t ih =>
  obtain ⟨k, y⟩ := p
  rw [keep] at hb
  cases hn : Nat.ble n k
  ·
   rw [hn, cond_false] at hb; simp [hget] at hb
  ·
   rw [hn, cond_true, jBH] at hb
   rw [jm]
   split at hb
   ·
    rw [jm] at hb
    split at hb
    ·
     rename_i e; subst e
     rw [if_pos rfl]; exact ⟨hb, by simpa using hn⟩
    ·
     rename_i e; rw [if_neg e]; exact ih hb
   ·
    rename_i hk
    have e : k ≠ b := fun e => hk (e ▸ hbm)
    rw [if_neg e]; exact ih hb
theorem jDt (ds : List Nat) (h : Heap) (b : Nat) : hget (hcut ds h) b = if b ∈ ds then none else hget h b := by
 induction h with
 | nil => simp [hcut, hget]
 | cons p t ih =>
  obtain ⟨k, y⟩ := p
  rw [hcut, jBH]
  by_cases hk : k ∈ ds
  ·
   rw [if_pos hk, ih, jm]
   by_cases e : k = b
   ·
    subst e; simp [hk]
   ·
    simp [e]
  ·
   rw [if_neg hk, jm, jm, ih]
   by_cases e : k = b
   ·
    subst e; simp [hk]
   ·
    simp [e]
theorem jId (ds : List Nat) (h : Heap) : jOX ds h = hcut ds h := by
 cases ds with
 | nil =>
  show h = hcut [] h
  induction h with
  | nil => rfl
  | cons p t ih => obtain ⟨k, y⟩ := p; rw [hcut, jBH, if_neg (by simp), ← ih]
 | cons d t => rfl
theorem jBS (k : Nat) (x : TV) (t : Tm) (b : Nat) : tget ((k, x) :: t) b = if k = b then some x else tget t b := by
 show (bif Nat.beq k b then some x else tget t b) = _
 rw [jAI]
theorem jMI (b : Nat) : tget [] b = none := rfl
theorem jDU (T : Tm) (d : Option Nat) (v : TV) (c : Nat) : tget (tset T d v) c = if d = some c then some v else tget T c := by
 cases d with
 | none => simp [tset]
 | some d =>
  rw [tset, jBS]
  by_cases h : d = c
  ·
   subst h; simp
  ·
   simp [h]
theorem jJu (ds : List Nat) (T : Tm) (c : Nat) : tget (tcut ds T) c = if c ∈ ds then none else tget T c := by
 induction T with
 | nil => simp [tcut, jMI]
 | cons p t ih =>
  obtain ⟨k, y⟩ := p
  rw [tcut, jBH]
  by_cases hk : k ∈ ds
  ·
   rw [if_pos hk, ih, jBS]
   by_cases e : k = c
   ·
    subst e; simp [hk]
   ·
    simp [e]
  ·
   rw [if_neg hk, jBS, jBS, ih]
   by_cases e : k = c
   ·
    subst e; simp [hk]
   ·
    simp [e]
theorem jBZ {n b : Nat} {l : List Nat} : b ∈ older n l ↔ b ∈ l ∧ b < n := by
 induction l with
 | nil => simp [older]
 | cons x t ih =>
  rw [older]
  by_cases h : x < n
  ·
   rw [show Nat.blt x n = true from by simpa [Nat.blt_eq] using h, cond_true, List.mem_cons, List.mem_cons, ih]
   constructor
   ·
    rintro (rfl | h')
    ·
     exact ⟨.inl rfl, h⟩
    ·
     exact ⟨.inr h'.1, h'.2⟩
   ·
    rintro ⟨rfl | h', h2⟩
    ·
     exact .inl rfl
    ·
     exact .inr ⟨h', h2⟩
  ·
   rw [show Nat.blt x n = false from by rw [← Bool.not_eq_true, Nat.blt_eq]; exact h, cond_false, ih, List.mem_cons]
   constructor
   ·
    rintro h'; exact ⟨.inr h'.1, h'.2⟩
   ·
    rintro ⟨rfl | h', h2⟩
    ·
     exact absurd h2 h
    ·
     exact ⟨h', h2⟩
theorem jCY {b : Nat} {l m : List Nat} : b ∈ jEI l m ↔ b ∈ l ∨ b ∈ m := by
 induction m with
 | nil => simp [jEI]
 | cons x t ih =>
  rw [jEI, jBH]
  split
  ·
   rw [ih, List.mem_cons]; constructor
   ·
    rintro (h | h); exact .inl h; exact .inr (.inr h)
   ·
    rintro (h | rfl | h); exact .inl h; exact .inl ‹_›; exact .inr h
  ·
   rw [List.mem_cons, ih, List.mem_cons]; constructor
   ·
    rintro (h | h | h); exact .inr (.inl h); exact .inl h; exact .inr (.inr h)
   ·
    rintro (h | h | h); exact .inr (.inl h); exact .inl h; exact .inr (.inr h)
theorem zh {st : AS} {b c : Nat} : c ∈ touch st b ↔ c = b ∨ c ∈ st.wr := by
 rw [touch, jBH]
 split
 ·
  constructor
  ·
   exact .inr
  ·
   rintro (rfl | h); assumption; exact h
 ·
  rw [List.mem_cons]
def Agree (n : Nat → Bool) (π π' : Pi) : Prop := ∀ b, n b = true → π'.mu b = π.mu b ∧ π'.room b = π.room b
theorem SV.agree {p : Nat → Bool} {π π' : Pi} (h : Agree p π π') {s : SV} (hs : s.all p = true) : s.conc π' = s.conc π := by
 cases s with
 | ptr b o => simp only [SV.conc, (h b hs).1]
 | sl b o n c op => simp only [SV.conc, (h b hs).1, (h b hs).2]
 | fn f caps =>
  simp only [SV.conc]
  rw [List.map_congr_left fun q hq => by rw [(h q.1 (List.all_eq_true.1 hs q hq)).1]]
 | _ => rfl
theorem SV.agrees {p : Nat → Bool} {π π' : Pi} (h : Agree p π π') {l : List SV} (hs : l.all (SV.all p) = true) : l.map (SV.conc π') = l.map (SV.conc π) :=
 List.map_congr_left fun s hm => SV.agree h (List.all_eq_true.1 hs s hm)
theorem AV.agree {p : Nat → Bool} {π π' : Pi} (h : Agree p π π') {v : AV} (hs : v.all p = true) : v.conc π' = v.conc π := by
 cases v with
 | sc s => exact SV.agree h hs
 | agg l => simp only [AV.conc, SV.agrees h hs]
theorem TV.agree {p : Nat → Bool} {π π' : Pi} (h : Agree p π π') {v : TV} (hs : v.all p = true) : v.conc π' = v.conc π := by
 cases v with
 | av v => exact AV.agree h hs
 | tup l =>
  simp only [TV.conc]
  rw [List.map_congr_left fun s hm => AV.agree h (List.all_eq_true.1 hs s hm)]
theorem SV.vK {p q : Nat → Bool} (h : ∀ b, p b = true → q b = true) {s : SV} (hs : s.all p = true) : s.all q = true := by
 cases s with
 | ptr b o => exact h b hs
 | sl b o n c op => exact h b hs
 | fn f caps => exact List.all_eq_true.2 fun q hq => h q.1 (List.all_eq_true.1 hs q hq)
 | _ => rfl
theorem SVs.vK {p q : Nat → Bool} (h : ∀ b, p b = true → q b = true) {l : List SV} (hs : l.all (SV.all p) = true) : l.all (SV.all q) = true :=
 List.all_eq_true.2 fun s hm => SV.vK h (List.all_eq_true.1 hs s hm)
theorem AV.vK {p q : Nat → Bool} (h : ∀ b, p b = true → q b = true) {v : AV} (hs : v.all p = true) : v.all q = true := by
 cases v with
 | sc s => exact SV.vK h hs
 | agg l => exact SVs.vK h hs
theorem TV.vK {p q : Nat → Bool} (h : ∀ b, p b = true → q b = true) {v : TV} (hs : v.all p = true) : v.all q = true := by
 cases v with
 | av v => exact AV.vK h hs
 | tup l => exact List.all_eq_true.2 fun s hm => AV.vK h (List.all_eq_true.1 hs s hm)
theorem jw {n b : Nat} : below n b = true ↔ b < n := by simp [below, Nat.blt_eq]
theorem zK {n m : Nat} (h : n ≤ m) : ∀ b, below n b = true → below m b = true := fun b hb => by
 rw [jw] at *; omega
def BRel (π : Pi) (w : World) (b : Nat) (k : Blk) : Prop :=
 ∃ (rest : List Value) (fz : Nat × Nat), w.heap[π.mu b]? = some (.cells (k.cells.map (SV.conc π) ++ rest).toArray k.elem fz) ∧
  (k.ro = false → fz = (0, 0)) ∧ (k.op = false → rest = []) ∧ (k.op = true → k.cells.length + rest.length = π.room b * k.z)
structure HRel (π : Pi) (st : AS) (w : World) : Prop where
 blk : ∀ b k, hget st.heap b = some k → b < st.next ∧ BRel π w b k ∧ k.cells.all (SV.all (below st.next)) = true
 inj : ∀ b b' k k', hget st.heap b = some k → hget st.heap b' = some k' → π.mu b = π.mu b' → b = b'
structure Tr (π : Pi) (st : AS) (w : World) (π' : Pi) (st' : AS) (w' : World) : Prop where
 next : st.next ≤ st'.next
 mu : Agree (below st.next) π π'
 os : w'.os = w.os
 tape : w'.tape = w.tape
 output : w'.output = w.output
 size : w.heap.size ≤ w'.heap.size
 wr : ∀ b, b ∈ st.wr → b ∈ st'.wr
 same : ∀ b, b < st.next → b ∉ st'.wr → hget st'.heap b = hget st.heap b
 old : ∀ b k', b < st.next → hget st'.heap b = some k' → ∃ k, hget st.heap b = some k
 frame : ∀ r, r < w.heap.size → (∀ b k, hget st.heap b = some k → b ∈ st'.wr → π.mu b ≠ r) → w'.heap[r]? = w.heap[r]?
 fresh : ∀ b k, hget st'.heap b = some k → st.next ≤ b → w.heap.size ≤ π'.mu b ∨ ∃ b0 k0, hget st.heap b0 = some k0 ∧ b0 ∈ st'.wr ∧ π'.mu b = π.mu b0
theorem Agree.refl (p : Nat → Bool) (π : Pi) : Agree p π π := fun _ _ => ⟨rfl, rfl⟩
theorem HRel.lt {π : Pi} {st : AS} {w : World} (h : HRel π st w) {b : Nat} {k : Blk} (hb : hget st.heap b = some k) : π.mu b < w.heap.size := by
 obtain ⟨rest, fz, hr, -⟩ := (h.blk b k hb).2.1
 exact (Array.getElem?_eq_some_iff.1 hr).1
theorem Tr.refl {π : Pi} {st : AS} {w : World} (h : HRel π st w) : Tr π st w π st w where
 next := Nat.le_refl _
 mu := Agree.refl _ _
 os := rfl
 tape := rfl
 output := rfl
 size := Nat.le_refl _
 wr := fun _ h => h
 same := fun _ _ _ => rfl
 old := fun _ k' _ h => ⟨k', h⟩
 frame := fun _ _ _ => rfl
 fresh := fun b k hb hge => absurd (h.blk b k hb).1 (Nat.not_lt.2 hge)
theorem Tr.trans {π π' π'' : Pi} {st st' st'' : AS} {w w' w'' : World} (h : Tr π st w π' st' w') (g : Tr π' st' w' π'' st'' w'') : Tr π st w π'' st'' w'' where
 next := Nat.le_trans h.next g.next
 mu := fun b hb => by
  have h1 := h.mu b hb
  have h2 := g.mu b (zK h.next b hb)
  exact ⟨h2.1.trans h1.1, h2.2.trans h1.2⟩
 os := g.os.trans h.os
 tape := g.tape.trans h.tape
 output := g.output.trans h.output
 size := Nat.le_trans h.size g.size
 wr := fun b hb => g.wr b (h.wr b hb)
 same := fun b hb hn => (g.same b (Nat.lt_of_lt_of_le hb h.next) hn).trans (h.same b hb fun hm => hn (g.wr b hm))
 old := fun b k' hb hk => by
  obtain ⟨k, hk⟩ := g.old b k' (Nat.lt_of_lt_of_le hb h.next) hk
  exact h.old b k hb hk
 frame := fun r hr hc => by
  refine (g.frame r (Nat.lt_of_lt_of_le hr h.size) ?_).trans (h.frame r hr fun b k hb hm => hc b k hb (g.wr b hm))
  intro b k hb hm
  rcases Nat.lt_or_ge b st.next with hlt | hge
  ·
   obtain ⟨k0, hk0⟩ := h.old b k hlt hb
   rw [(h.mu b (jw.2 hlt)).1]
   exact hc b k0 hk0 hm
  ·
   rcases h.fresh b k hb hge with hf | ⟨b0, k0, hk0, hm0, he⟩
   ·
    omega
   ·
    rw [he]; exact hc b0 k0 hk0 (g.wr b0 hm0)
 fresh := fun b k hb hge => by
  have key : ∀ b k, hget st'.heap b = some k → st.next ≤ b → (w.heap.size ≤ π'.mu b ∨ ∃ b0 k0, hget st.heap b0 = some k0 ∧ b0 ∈ st''.wr ∧ π'.mu b = π.mu b0) := fun b k hb hge =>
   (h.fresh b k hb hge).imp id fun ⟨b0, k0, h1, h2, h3⟩ => ⟨b0, k0, h1, g.wr b0 h2, h3⟩
  rcases Nat.lt_or_ge b st'.next with hlt | hge'
  ·
   obtain ⟨k1, hk1⟩ := g.old b k hlt hb
   rw [(g.mu b (jw.2 hlt)).1]
   exact key b k1 hk1 hge
  ·
   rcases g.fresh b k hb hge' with hf | ⟨b0, k0, hk0, hm0, he⟩
   ·
    exact .inl (Nat.le_trans h.size hf)
   ·
    rw [he]
    rcases Nat.lt_or_ge b0 st.next with hlt | hge0
    ·
     obtain ⟨k1, hk1⟩ := h.old b0 k0 hlt hk0
     exact .inr ⟨b0, k1, hk1, hm0, (h.mu b0 (jw.2 hlt)).1⟩
    ·
     exact key b0 k0 hk0 hge0
end Go.Ev
namespace Go.Ev
variable {P : Program}
theorem jGS {v : Value} {s : SV} (h : ofSV v = some s) (π : Pi) (p : Nat → Bool) : s.conc π = v ∧ s.all p = true := by
 unfold ofSV at h
 split at h
 case h_6 f first caps =>
  simp only [Bool.cond_eq_ite, Bool.and_eq_true, Nat.beq_eq] at h
  split at h
  ·
   rename_i hc
   simp only [Option.some.injEq] at h; subst h
   have e1 : first = #[] := Array.size_eq_zero_iff.1 hc.1
   have e2 : caps = #[] := Array.size_eq_zero_iff.1 hc.2
   subst e1; subst e2
   exact ⟨rfl, rfl⟩
  ·
   simp at h
 all_goals (simp only [Option.some.injEq, reduceCtorEq] at h <;> subst h <;> exact ⟨rfl, rfl⟩)
theorem jCo {l : List Value} {s : List SV} (h : jJG l = some s) (π : Pi) (p : Nat → Bool) : s.map (SV.conc π) = l ∧ s.all (SV.all p) = true := by
 induction l generalizing s with
 | nil => simp only [jJG, Option.some.injEq] at h; subst h; exact ⟨rfl, rfl⟩
 | cons v t ih =>
  simp only [jJG] at h
  split at h
  ·
   rename_i s0 l0 h0 h1
   simp only [Option.some.injEq] at h; subst h
   have a := jGS h0 π p
   have b := ih h1
   exact ⟨by rw [List.map_cons, a.1, b.1], by rw [List.all_cons, a.2, b.2]; rfl⟩
  ·
   simp at h
theorem jGR {v : Value} {s : AV} (h : ofValue v = some s) (π : Pi) (p : Nat → Bool) : s.conc π = v ∧ s.all p = true := by
 unfold ofValue at h
 split at h
 ·
  rename_i cs
  rw [Option.map_eq_some_iff] at h
  obtain ⟨l, hl, rfl⟩ := h
  have a := jCo hl π p
  exact ⟨by simp only [AV.conc, a.1, Array.toArray_toList], a.2⟩
 ·
  rw [Option.map_eq_some_iff] at h
  obtain ⟨l, hl, rfl⟩ := h
  exact jGS hl π p
def TRel (π : Pi) (n : Nat) (T : Tm) (tmps : Array Value) : Prop :=
 ∀ t v, tget T t = some v → tmps[t]? = some (v.conc π) ∧ v.all (below n) = true
section
variable {π : Pi} {n : Nat} {T : Tm} {a : Act} (hT : TRel π n T a.tmps)
include hT
theorem jCj {x : Operand} {v : TV} (h : Opd T x = some v) : a.eval x = v.conc π ∧ v.all (below n) = true := by
 cases x with
 | tmp t =>
  obtain ⟨h1, h2⟩ := hT t v h
  exact ⟨by simp [Act.eval, h1], h2⟩
 | const c =>
  simp only [Opd, Option.map_eq_some_iff] at h
  obtain ⟨s, hs, rfl⟩ := h
  have := jGR hs π (below n)
  exact ⟨this.1.symm, this.2⟩
 | global g => simp [Opd] at h
 | func f => simp only [Opd, Option.some.injEq] at h; subst h; exact ⟨rfl, rfl⟩
theorem jAA {x : Operand} {v : AV} (h : Opv T x = some v) : a.eval x = v.conc π ∧ v.all (below n) = true := by
 unfold Opv at h
 split at h
 ·
  rename_i v' hv
  simp only [Option.some.injEq] at h; subst h
  exact jCj hT hv
 ·
  simp at h
theorem ji {x : Operand} {v : SV} (h : Ops' T x = some v) : a.eval x = v.conc π ∧ v.all (below n) = true := by
 unfold Ops' at h
 split at h
 ·
  rename_i v' hv
  simp only [Option.some.injEq] at h; subst h
  exact jCj hT hv
 ·
  simp at h
theorem jFE {l : List Operand} {v : List AV} (h : Opvs T l = some v) : l.map a.eval = v.map (AV.conc π) ∧ v.all (AV.all (below n)) = true := by
 induction l generalizing v with
 | nil => simp only [Opvs, Option.some.injEq] at h; subst h; exact ⟨rfl, rfl⟩
 | cons x t ih =>
  simp only [Opvs] at h
  split at h
  ·
   rename_i s0 l0 h0 h1
   simp only [Option.some.injEq] at h; subst h
   have a := jAA hT h0
   have b := ih h1
   exact ⟨by rw [List.map_cons, List.map_cons, a.1, b.1], by rw [List.all_cons, a.2, b.2]; rfl⟩
  ·
   simp at h
theorem jCU {l : List (Nat × Operand)} {v : List (Nat × AV)} (h : partsOf T l = some v) :
  l.map (fun q => (q.1, a.eval q.2)) = v.map (fun q => (q.1, q.2.conc π)) ∧ ∀ q ∈ v, q.2.all (below n) = true := by
 induction l generalizing v with
 | nil => simp only [partsOf, Option.some.injEq] at h; subst h; exact ⟨rfl, by simp⟩
 | cons x t ih =>
  obtain ⟨i, x⟩ := x
  simp only [partsOf] at h
  split at h
  ·
   rename_i s0 l0 h0 h1
   simp only [Option.some.injEq] at h; subst h
   have a := jAA hT h0
   have b := ih h1
   refine ⟨by rw [List.map_cons, List.map_cons, b.1, a.1], ?_⟩
   intro q hq
   rw [List.mem_cons] at hq
   rcases hq with rfl | hq
   ·
    exact a.2
   ·
    exact b.2 q hq
  ·
   simp at h
end
theorem SV.one (π : Pi) (s : SV) : (s.conc π).oneCell' = true := by cases s <;> rfl
theorem AV.jAx (π : Pi) (v : AV) : (v.conc π).cells = (v.cells.map (SV.conc π)).toArray := by
 cases v with
 | sc s => cases s <;> rfl
 | agg l => rfl
theorem jBj {t : TypeId} {b : Bool} (h : isAg P t = some b) (w : World) : (isAgg t).run P w = .ok b w := by
 unfold isAg at h
 split at h <;> simp only [Option.some.injEq, reduceCtorEq] at h <;> subst h
 ·
  rename_i hu; simp [isAgg, run_underlying hu]
 ·
  rename_i hu; simp [isAgg, run_underlying hu]
 ·
  rename_i d h1 h2 hu
  simp only [isAgg, Sem.run_bind, run_underlying hu, Result.andThen_ok]
  cases d <;> simp at h1 h2 ⊢
theorem zH {t : TypeId} {z : Nat} (h : szOf P t = some z) (w : World) : (sizeOf t).run P w = .ok z w := by
 unfold szOf at h
 rw [Option.map_eq_some_iff] at h
 obtain ⟨i, hi, rfl⟩ := h
 simp [sizeOf, typeInfo, hi]
theorem jFv {t : TypeId} {z : Nat} (h : szOf P t = some z) : ∃ i, P.info? t = some i ∧ i.size = z := by
 unfold szOf at h
 rwa [Option.map_eq_some_iff] at h
theorem jAk {l : List SV} {off n : Nat} {r : List SV} (h : cut l off n = some r) : r = (l.drop off).take n ∧ r.length = n := by
 simp only [cut, jAI] at h
 split at h
 ·
  rename_i hl
  simp only [Option.some.injEq] at h
  subst h; exact ⟨rfl, hl⟩
 ·
  simp at h
theorem jOn {l : List SV} {off n : Nat} {r : List SV} (h : cut l off n = some r) {j : Nat} {s : SV} (hj : r[j]? = some s) : l[off + j]? = some s := by
 rw [(jAk h).1, List.getElem?_take] at hj
 split at hj
 ·
  rwa [List.getElem?_drop] at hj
 ·
  simp at hj
theorem Addr.jCg (b o n : Nat) : Addr.add ⟨b, o, none⟩ n = ⟨b, o + n, none⟩ := by
 unfold Addr.add
 split
 ·
  subst_vars; rfl
 ·
  rfl
theorem BRel.cell {π : Pi} {w : World} {b : Nat} {k : Blk} (h : BRel π w b k) {j : Nat} {s : SV} (hj : k.cells[j]? = some s) :
  w.cell? ⟨π.mu b, j, none⟩ = some (s.conc π) := by
 obtain ⟨rest, fz, hr, -⟩ := h
 obtain ⟨hl, he⟩ := List.getElem?_eq_some_iff.1 hj
 simp [World.cell?, hr, List.getElem?_append, hl, he]
theorem BRel.jCs {π : Pi} {w : World} {b : Nat} {k : Blk} (h : BRel π w b k) {off n : Nat} {r : List SV} (hc : cut k.cells off n = some r) (j : Nat) (v : Value)
  (hj : (r.map (SV.conc π))[j]? = some v) : w.cell? ((⟨π.mu b, off, none⟩ : Addr).add j) = some v := by
 rw [List.getElem?_map, Option.map_eq_some_iff] at hj
 obtain ⟨s, hs, rfl⟩ := hj
 rw [Addr.jCg]
 exact h.cell (jOn hc hs)
theorem jCn {π : Pi} {w : World} {b : Nat} {k : Blk} (h : BRel π w b k) {off n : Nat} {r : List SV} (hc : cut k.cells off n = some r) :
  (loadCells ⟨π.mu b, off, none⟩ n).run P w = .ok (r.map (SV.conc π)).toArray w := by
 have := run_loadCells_list (P := P) w ⟨π.mu b, off, none⟩ (r.map (SV.conc π)) (h.jCs hc)
 rwa [List.length_map, (jAk hc).2] at this
theorem jHf {l : List SV} {off n : Nat} {r : List SV} (h : cut l off n = some r) {p : SV → Bool} (hl : l.all p = true) : r.all p = true := by
 rw [(jAk h).1]
 exact List.all_eq_true.2 fun s hs => List.all_eq_true.1 hl s (List.mem_of_mem_drop (List.mem_of_mem_take hs))
theorem jEG {π : Pi} {st : AS} {w : World} (h : HRel π st w) {t : TypeId} {s : SV} {v : TV} (hv : jLh P st t s = some v) :
  (Instr.loadAt t (s.conc π)).run P w = .ok (v.conc π) w ∧ v.all (below st.next) = true := by
 unfold jLh at hv
 split at hv
 ·
  rename_i b off
  split at hv
  ·
   rename_i k n hk ha hz
   rw [Option.map_eq_some_iff] at hv
   obtain ⟨r, hr, rfl⟩ := hv
   obtain ⟨-, hb, hall⟩ := h.blk b k hk
   refine ⟨?_, jHf hr hall⟩
   simp [Instr.loadAt, SV.conc, Instr.sureAddr, loadVar, jBj ha, zH hz, jCn hb hr, TV.conc, AV.conc]
  ·
   rename_i k hk ha
   rw [Option.map_eq_some_iff] at hv
   obtain ⟨r, hr, rfl⟩ := hv
   obtain ⟨-, hb, hall⟩ := h.blk b k hk
   refine ⟨?_, List.all_eq_true.1 hall r (List.mem_of_getElem? hr)⟩
   simp [Instr.loadAt, SV.conc, Instr.sureAddr, loadVar, jBj ha, hb.cell hr, TV.conc, AV.conc]
  ·
   simp at hv
 ·
  simp at hv
theorem jGa {op : BinOp} {k : IntKind} {a b : Int} {s : SV} (h : jKo op k a b = some s) (t : TypeId) (x y : Operand) (π : Pi) (w : World) :
  (do eqGuard op t x y (.int k a) (.int k b); binOp op t (.int k a) (.int k b) : Sem Value).run P w = .ok (s.conc π) w := by
 cases op <;> simp only [jKo, Option.some.injEq, reduceCtorEq] at h
 case quo | rem =>
  split at h
  ·
   simp at h
  ·
   rename_i hb
   simp only [Option.some.injEq] at h; subst h
   simp [eqGuard_at_int, binOp, Op.intDiv, hb, SV.conc]
 case and => subst h; simp [eqGuard_at_int, binOp_and, intBits_and, SV.conc]
 case or => subst h; simp [eqGuard_at_int, binOp_or, intBits_or, SV.conc]
 case xor => subst h; simp [eqGuard_at_int, binOp_xor, intBits_xor, SV.conc]
 case andNot => subst h; simp [eqGuard_at_int, binOp_andNot, intBits_andNot, SV.conc]
 all_goals (subst h; simp [eqGuard_at_int, binOp, Op.intArith, Op.intCmp, SV.conc])
theorem jDy {x y : SV} {s t : List SV} {r : Bool} (h : jBO (x :: s) (y :: t) = some r) :
  ∃ k a b r', x = .int k a ∧ y = .int k b ∧ jBO s t = some r' ∧ r = ((a == b) && r') := by
 cases x <;> cases y <;> simp only [jBO, reduceCtorEq] at h
 rename_i k a k' b
 split at h
 ·
  rename_i hk
  rw [Option.map_eq_some_iff] at h
  obtain ⟨r', hr', rfl⟩ := h
  exact ⟨k, a, b, r', rfl, by rw [hk], hr', rfl⟩
 ·
  simp at h
theorem jEt : ∀ {a b : List SV} {r : Bool}, jBO a b = some r → a.length = b.length
 | [], [], _, _ => rfl
 | [], _ :: _, _, h => by simp [jBO] at h
 | x :: _, [], _, h => by cases x <;> simp [jBO] at h
 | x :: s, y :: t, r, h => by
  obtain ⟨k, a, b, r', -, -, h3, -⟩ := jDy h
  simp [jEt h3]
end Go.Ev
namespace Go.Ev
variable {P : Program}
theorem jIM {e : TypeId} {k0 : IntKind} (he : P.underlying e = some (.int k0)) (xs : List SV) (π : Pi) (i : Nat) (s : SV) (hs : xs[i]? = some s) (w : World) :
  (part e (xs.map (SV.conc π)).toArray i).run P w = .ok (s.conc π) w := by
 have hag : (isAgg e).run P w = .ok false w := by simp [isAgg, run_underlying he]
 simp [part, hag, hs]
theorem jEQ {e : TypeId} {d : Nat} {k0 : IntKind} (he : P.underlying e = some (.int k0)) (xs ys : List SV) (π : Pi) (w : World) :
  ∀ (m i : Nat) (r : Bool), i + m = xs.length → jBO (xs.drop i) (ys.drop i) = some r →
  (forIn (List.range' i m) ((none, ()) : Option Bool × Unit) fun i _ => do
      let __do_lift ← part e (List.map (SV.conc π) xs).toArray (i * 1)
      let __do_lift_1 ← part e (List.map (SV.conc π) ys).toArray (i * 1)
      let __do_lift ← Op.equalIn (d + 1) e __do_lift __do_lift_1
      if (!__do_lift) = true then pure (ForInStep.done (some false, ())) else pure (ForInStep.yield (none, ()))).run P w =
   .ok (if r then (none, ()) else (some false, ())) w := by
 intro m
 induction m with
 | zero =>
  intro i r hi hr
  rw [List.drop_of_length_le (by omega)] at hr
  cases hy : ys.drop i with
  | nil => rw [hy] at hr; simp only [jBO, Option.some.injEq] at hr; subst hr; simp
  | cons y t => rw [hy] at hr; simp [jBO] at hr
 | succ m ih =>
  intro i r hi hr
  have hlt : i < xs.length := by omega
  rw [List.drop_eq_getElem_cons hlt] at hr
  cases hy : ys.drop i with
  | nil => rw [hy] at hr; exact absurd (jEt hr) (by simp; omega)
  | cons y t =>
   rw [hy] at hr
   obtain ⟨k, a, b, r', h1, h2, h3, rfl⟩ := jDy hr
   have hy0 : ys[i]? = some y := by have := congrArg (fun l => l[0]?) hy; simpa using this
   have ht : ys.drop (i + 1) = t := by have := congrArg (List.drop 1) hy; simpa [Nat.add_comm] using this
   rw [List.range'_succ, List.forIn_cons]
   simp only [Sem.run_bind, Nat.mul_one]
   rw [jIM he xs π i xs[i] (by simp [hlt]), Result.andThen_ok, jIM he ys π i y hy0, Result.andThen_ok, h1, h2]
   simp only [SV.conc]
   rw [run_equalIn_int w d e k k0 a b he, Result.andThen_ok]
   cases hab : (a == b)
   ·
    simp
   ·
    simp only [Bool.not_true, Bool.false_eq_true, if_false, Sem.run_pure, Result.andThen_ok, Bool.true_and]
    have := ih (i + 1) r' (by omega) (by rw [ht]; exact h3)
    simpa only [Sem.run_bind, Nat.mul_one] using this
theorem jKG {t e : TypeId} {n d : Nat} {k0 : IntKind} (hu : P.underlying t = some (.array n e)) (he : P.underlying e = some (.int k0)) (hz : szOf P e = some 1)
  (xs ys : List SV) (hx : xs.length = n) (r : Bool) (hr : jBO xs ys = some r) (π : Pi) (w : World) :
  (Op.equalIn (d + 2) t (.agg (xs.map (SV.conc π)).toArray) (.agg (ys.map (SV.conc π)).toArray)).run P w = .ok r w := by
 rw [Op.equalIn]
 simp only [Sem.run_bind, run_underlying hu, Result.andThen_ok, zH hz]
 simp only [Std.Legacy.Range.forIn_eq_forIn_range', Std.Legacy.Range.size]
 have := jEQ (d := d) he xs ys π w n 0 r (by omega) (by simpa using hr)
 simp only [Nat.sub_zero, Nat.add_sub_cancel, Nat.div_one]
 rw [this, Result.andThen_ok]
 cases r <;> rfl
theorem jHb {op : BinOp} {r : Bool} {s : SV} (h : jET op r = some s) : (op = .eql ∧ s = .bool r) ∨ (op = .neq ∧ s = .bool !r) := by
 unfold jET at h
 split at h <;> simp only [Option.some.injEq, reduceCtorEq] at h
 ·
  exact .inl ⟨rfl, h.symm⟩
 ·
  exact .inr ⟨rfl, h.symm⟩
theorem jAd {op : BinOp} {r : Bool} {s : SV} (h : jET op r = some s) {t : TypeId} {ox oy : Operand} {x y : Value} {w : World} (π : Pi)
  (hg : (eqGuard op t ox oy x y).run P w = .ok () w) (he : (Op.equal t x y).run P w = .ok r w)
  (h1 : binOp .eql t x y = do pure (.bool (← Op.equal t x y))) (h2 : binOp .neq t x y = do pure (.bool (!(← Op.equal t x y)))) :
  (do eqGuard op t ox oy x y; binOp op t x y : Sem Value).run P w = .ok (s.conc π) w := by
 rw [Sem.run_bind, hg, Result.andThen_ok]
 rcases jHb h with ⟨rfl, rfl⟩ | ⟨rfl, rfl⟩
 ·
  rw [h1]; simp [he, SV.conc]
 ·
  rw [h2]; simp [he, SV.conc]
theorem jAE {t e : TypeId} (h : jCz P t = some e) : P.underlying t = some (.pointer e) := by
 unfold jCz at h
 split at h
 ·
  rename_i hu; simp only [Option.some.injEq] at h; subst h; exact hu
 ·
  simp at h
theorem zu {t e : TypeId} (h : qo P t = some e) : P.underlying t = some (.slice e) := by
 unfold qo at h
 split at h
 ·
  rename_i e' hu
  simp only [Option.some.injEq] at h; subst h; exact hu
 ·
  simp at h
theorem jGo {t e : TypeId} {n : Nat} (h : arrT P t = some (n, e)) : P.underlying t = some (.array n e) := by
 unfold arrT at h
 split at h
 ·
  rename_i hu; simp only [Option.some.injEq, Prod.mk.injEq] at h; obtain ⟨rfl, rfl⟩ := h; exact hu
 ·
  simp at h
section
variable {t e : TypeId} (w : World)
theorem jJO (hu : P.underlying t = some (.pointer e)) (a : Addr) (d : Nat) : (Op.equalIn (d + 1) t (.pointer (some a)) (.pointer none)).run P w = .ok false w := by simp [Op.equalIn, run_underlying hu]
theorem jJP (hu : P.underlying t = some (.pointer e)) (d : Nat) : (Op.equalIn (d + 1) t (.pointer none) (.pointer none)).run P w = .ok true w := by simp [Op.equalIn, run_underlying hu]
theorem jHZ (hu : P.underlying t = some (.pointer e)) {z : Nat} (hz : szOf P e = some z) (h0 : z ≠ 0) (a : Addr) (d : Nat) : (Op.equalIn (d + 1) t (.pointer (some a)) (.pointer (some a))).run P w = .ok true w := by
 simp [Op.equalIn, run_underlying hu, zH hz, h0, sameAddr]
theorem jKw (hu : P.underlying t = some (.slice e)) (a : Addr) (n c : Nat) (d : Nat) : (Op.equalIn (d + 1) t (.slice (some a) n c) (.slice none 0 0)).run P w = .ok false w := by simp [Op.equalIn, run_underlying hu]
theorem jHa (hu : P.underlying t = some (.slice e)) (d : Nat) : (Op.equalIn (d + 1) t (.slice none 0 0) (.slice none 0 0)).run P w = .ok true w := by simp [Op.equalIn, run_underlying hu]
end
theorem jJh {op : BinOp} {t : TypeId} {x y : AV} {s : SV} (h : abin P op t x y = some s) (ox oy : Operand) (π : Pi) (w : World) :
  (do eqGuard op t ox oy (x.conc π) (y.conc π); binOp op t (x.conc π) (y.conc π) : Sem Value).run P w = .ok (s.conc π) w := by
 unfold abin at h
 split at h
 ·
  rename_i a
  unfold jQp at h
  split at h
  ·
   rename_i k n
   unfold jLu at h
   split at h
   ·
    rename_i k' m
    unfold jIo at h
    split at h
    ·
     split at h
     ·
      simp at h
     ·
      rename_i hb
      simp only [Option.some.injEq] at h; subst h
      simp [AV.conc, SV.conc, eqGuard_at_int, binOp_shl, Op.shift, hb]
    ·
     split at h
     ·
      simp at h
     ·
      rename_i hb
      simp only [Option.some.injEq] at h; subst h
      simp [AV.conc, SV.conc, eqGuard_at_int, binOp_shr, Op.shift, hb]
    ·
     split at h
     ·
      rename_i hk; subst hk
      exact jGa h t ox oy π w
     ·
      simp at h
   ·
    simp at h
  ·
   rename_i a
   unfold jLs at h
   split at h
   ·
    rename_i b
    split at h
    ·
     simp only [Option.some.injEq] at h; subst h
     simp [AV.conc, SV.conc, eqGuard_at_string, binOp, Op.stringOp, ByteArray.toList_eq]
    ·
     simp only [Option.some.injEq] at h; subst h
     simp [AV.conc, SV.conc, eqGuard_at_string, binOp, Op.stringOp, ByteArray.toList_eq]
    ·
     simp only [Bool.cond_eq_ite, Nat.ble_eq] at h
     split at h
     ·
      rename_i hsz
      simp only [Option.some.injEq] at h; subst h
      have : ¬ ((a.size + b.size : Nat) : Int) > IntKind.i64.max := by rw [IntKind.max_i64]; omega
      simp only [AV.conc, SV.conc, eqGuard_at_string, binOp, Op.stringOp, Sem.run_bind, Sem.run_pure, Result.andThen_ok, if_neg this]
     ·
      simp at h
    ·
     simp at h
   ·
    simp at h
  ·
   rename_i a
   unfold jIp at h
   split at h
   ·
    rename_i b
    simp only [Bool.cond_eq_ite] at h
    split at h
    ·
     rename_i hb
     have hu : P.underlying t = some .bool := by
      unfold jKn at hb
      split at hb
      ·
       assumption
      ·
       simp at hb
     exact jAd h π (by simp [AV.conc, SV.conc, eqGuard_at_bool]) (run_equal_bool w t a b hu) rfl rfl
    ·
     simp at h
   ·
    simp at h
  ·
   rename_i b off
   unfold jLt at h
   split at h
   ·
    split at h
    ·
     rename_i e he
     have hu := jAE he
     exact jAd h π (by simp [AV.conc, SV.conc, eqGuard_at_pointer]) (jJO w hu _ 9999) rfl rfl
    ·
     simp at h
   ·
    rename_i b' off'
    split at h
    ·
     rename_i e he
     split at h
     ·
      rename_i z hz
      simp only [Bool.cond_eq_ite, Bool.and_eq_true, Nat.beq_eq, Nat.ble_eq] at h
      split at h
      ·
       rename_i hc
       obtain ⟨⟨rfl, rfl⟩, hz1⟩ := hc
       have hu := jAE he
       have hz0 : z ≠ 0 := by omega
       exact jAd h π (by simp [AV.conc, SV.conc, eqGuard_at_pointer]) (jHZ w hu hz hz0 _ 9999) rfl rfl
      ·
       simp at h
     ·
      simp at h
    ·
     simp at h
   ·
    simp at h
  ·
   unfold jIn at h
   split at h
   ·
    split at h
    ·
     rename_i e he
     have hu := jAE he
     exact jAd h π (by simp [AV.conc, SV.conc, eqGuard_at_pointer]) (jJP w hu 9999) rfl rfl
    ·
     simp at h
   ·
    simp at h
  ·
   rename_i b off len c op'
   unfold jNk at h
   split at h
   ·
    split at h
    ·
     rename_i e he
     have hu := zu he
     exact jAd h π (by simp [AV.conc, SV.conc, eqGuard_at_slice]) (jKw w hu _ _ _ 9999) rfl rfl
    ·
     simp at h
   ·
    simp at h
  ·
   unfold jIm at h
   split at h
   ·
    split at h
    ·
     rename_i e he
     have hu := zu he
     exact jAd h π (by simp [AV.conc, SV.conc, eqGuard_at_slice]) (jHa w hu 9999) rfl rfl
    ·
     simp at h
   ·
    simp at h
  ·
   simp at h
 ·
  rename_i a
  unfold jQq at h
  split at h
  ·
   rename_i b
   split at h
   ·
    rename_i n e ha
    split at h
    ·
     rename_i z hz
     simp only [Bool.cond_eq_ite, Bool.and_eq_true, Nat.beq_eq, Bool.not_eq_true'] at h
     split at h
     ·
      rename_i hc
      obtain ⟨⟨⟨⟨hi, rfl⟩, hg⟩, hl⟩, -⟩ := hc
      have hu := jGo ha
      obtain ⟨k0, he⟩ : ∃ k0, P.underlying e = some (.int k0) := by
       unfold jNa at hi
       split at hi
       ·
        exact ⟨_, ‹_›⟩
       ·
        simp at hi
      rw [Option.bind_eq_some_iff] at h
      obtain ⟨r, hr, h⟩ := h
      refine jAd h π ?_ (jKG (d := 9998) hu he hz a b hl r hr π w) rfl rfl
      exact run_eqGuard_agg w _ t ox oy _ _ hg
     ·
      simp at h
    ·
     simp at h
   ·
    simp at h
  ·
   simp at h
theorem jLZ {op : UnOp} {x s : SV} (h : aun op x = some s) (π : Pi) (w : World) : (Op.unary op (x.conc π)).run P w = .ok (s.conc π) w := by
 unfold aun at h
 split at h <;> simp only [Option.some.injEq, reduceCtorEq] at h <;> subst h <;> simp [SV.conc, Op.unary, Op.intArith]
theorem jHs {src dst : TypeId} {x s : SV} (h : jOw P src dst x = some s) (π : Pi) (w : World) : (convert src dst (x.conc π)).run P w = .ok (s.conc π) w := by
 unfold jOw at h
 split at h <;> simp only [Option.some.injEq, reduceCtorEq] at h
 ·
  rename_i d k k' n hs hd
  subst h
  simp [SV.conc, convert, run_underlying hs, run_underlying hd, Conv.intToInt]
 ·
  rename_i s' hs hd
  subst h
  simp [SV.conc, convert, run_underlying hs, run_underlying hd]
theorem jLO {x : SV} {y n : Nat} (h : bnd x y = some n) : ∃ k i, x = .int k i ∧ 0 ≤ i ∧ i ≤ y ∧ n = i.toNat := by
 unfold bnd at h
 split at h
 ·
  rename_i k i
  split at h
  ·
   rename_i hi
   simp only [Option.some.injEq] at h
   exact ⟨k, i, rfl, hi.1, hi.2, h.symm⟩
  ·
   simp at h
 ·
  simp at h
theorem jCG {x : SV} {y n : Nat} (h : bnd x y = some n) {Y : Nat} (hY : y ≤ Y) (π : Pi) (code : BoundsCode) (w : World) :
  (Instr.sliceBound (x.conc π) Y code).run P w = .ok n w ∧ n ≤ y := by
 obtain ⟨k, i, rfl, h0, h1, rfl⟩ := jLO h
 exact ⟨run_sliceBound w k i Y code h0 (by omega), by omega⟩
theorem jGt {t : TypeId} {x s : SV} {f : Nat} (h : jLk P t x f = some s) (π : Pi) (w : World) :
  (Instr.fieldAt t (x.conc π) f).run P w = .ok (s.conc π) w := by
 unfold jLk at h
 split at h
 ·
  rename_i fs b off hu
  split at h
  ·
   rename_i fd hf
   split at h
   ·
    rename_i z hz
    simp only [jAI] at h
    split at h
    ·
     simp at h
    ·
     rename_i hz0
     simp only [Option.some.injEq] at h; subst h
     simp [SV.conc, Instr.fieldAt, run_underlying hu, hf, Instr.sureAddr, fieldPlace, zH hz, hz0, Addr.jCg]
   ·
    simp at h
  ·
   simp at h
 ·
  simp at h
theorem jFg {t : TypeId} {x i s : SV} (h : jHo P t x i = some s) (π : Pi) (w : World) :
  (Instr.indexAt t (x.conc π) (i.conc π)).run P w = .ok (s.conc π) w := by
 unfold jHo at h
 split at h
 ·
  rename_i k i
  split at h
  ·
   rename_i n e b off hu
   split at h
   ·
    rename_i z hz
    split at h
    ·
     rename_i hi
     simp only [Option.some.injEq] at h; subst h
     simp [SV.conc, Instr.indexAt, asIntOf, run_underlying hu, Instr.sureAddr, zH hz, hi, Addr.jCg]
    ·
     simp at h
   ·
    simp at h
  ·
   rename_i e b off len c op hu
   split at h
   ·
    rename_i z hz
    split at h
    ·
     rename_i hi
     simp only [Option.some.injEq] at h; subst h
     simp [SV.conc, Instr.indexAt, asIntOf, run_underlying hu, zH hz, hi, Addr.jCg]
    ·
     simp at h
   ·
    simp at h
  ·
   simp at h
 ·
  simp at h
theorem jGs {t : TypeId} {x : AV} {i : SV} {s : AV} (h : jLj P t x i = some s) (π : Pi) (w : World) :
  (Instr.index t (x.conc π) (i.conc π)).run P w = .ok (s.conc π) w := by
 unfold jLj at h
 split at h
 ·
  rename_i k i
  split at h
  ·
   rename_i n e cs hu
   split at h
   ·
    rename_i z hz ha
    split at h
    ·
     rename_i hi
     rw [Option.map_eq_some_iff] at h
     obtain ⟨r, hr, rfl⟩ := h
     simp [AV.conc, SV.conc, Instr.index, asIntOf, run_underlying hu, zH hz, hi, part, jBj ha, hr]
    ·
     simp at h
   ·
    rename_i z hz ha
    split at h
    ·
     rename_i hi
     rw [Option.map_eq_some_iff] at h
     obtain ⟨r, hr, rfl⟩ := h
     have hc := (jAk hr).1
     simp [AV.conc, SV.conc, Instr.index, asIntOf, run_underlying hu, zH hz, hi, part, jBj ha, hc, List.extract_eq_take_drop, List.map_take, List.map_drop]
    ·
     simp at h
   ·
    simp at h
  ·
   rename_i s' hu
   split at h
   ·
    rename_i hi
    rw [Option.map_eq_some_iff] at h
    obtain ⟨r, hr, rfl⟩ := h
    simp [AV.conc, SV.conc, Instr.index, asIntOf, run_underlying hu, hi, hr]
   ·
    simp at h
  ·
   simp at h
 ·
  simp at h
theorem jJe {t : TypeId} {x : AV} {s : SV} (h : alen P t x = some s) (ty : TypeId) (more : List TypeId) (π : Pi) (w : World) :
  (Builtin.len_ (t :: more).toArray ty #[x.conc π]).run P w = .ok (s.conc π) w := by
 unfold alen at h
 split at h <;> simp only [Option.some.injEq, reduceCtorEq] at h <;> subst h <;> rename_i hu <;>
  simp [AV.conc, SV.conc, Builtin.len_, run_underlying hu, goInt]
end Go.Ev
namespace Go.Ev
variable {P : Program}
theorem HRel.sub {π : Pi} {st st' : AS} {w : World} (h : HRel π st w) (hs : ∀ b k, hget st'.heap b = some k → hget st.heap b = some k) (hn : st.next ≤ st'.next) : HRel π st' w where
 blk := fun b k hb => by
  obtain ⟨h1, h2, h3⟩ := h.blk b k (hs b k hb)
  exact ⟨Nat.lt_of_lt_of_le h1 hn, h2, SVs.vK (zK hn) h3⟩
 inj := fun b b' k k' hb hb' e => h.inj b b' k k' (hs b k hb) (hs b' k' hb') e
theorem HRel.world {π : Pi} {st : AS} {w w' : World} (h : HRel π st w) (hw : ∀ b k, hget st.heap b = some k → w'.heap[π.mu b]? = w.heap[π.mu b]?) : HRel π st w' where
 blk := fun b k hb => by
  obtain ⟨h1, ⟨rest, fz, h2, h3⟩, h4⟩ := h.blk b k hb
  exact ⟨h1, ⟨rest, fz, (hw b k hb).trans h2, h3⟩, h4⟩
 inj := h.inj
theorem HRel.drew {π : Pi} {st : AS} {w : World} (h : HRel π st w) : HRel π st w.drew := h.world fun _ _ _ => rfl
theorem Tr.drew {π : Pi} {st : AS} {w : World} (h : HRel π st w) : Tr π st w π st w.drew := { Tr.refl h with os := rfl, tape := rfl, output := rfl, size := Nat.le_refl _, frame := fun _ _ _ => rfl, fresh := fun b k hb hge => absurd (h.blk b k hb).1 (Nat.not_lt.2 hge) }
theorem BRel.agree {π π' : Pi} {w : World} {b : Nat} {k : Blk} {n : Nat} (h : BRel π w b k) (hb : b < n) (hall : k.cells.all (SV.all (below n)) = true) (ha : Agree (below n) π π')
  {w' : World} (hw : w'.heap[π.mu b]? = w.heap[π.mu b]?) : BRel π' w' b k := by
 obtain ⟨rest, fz, h2, hro, h3, h4⟩ := h
 refine ⟨rest, fz, ?_, hro, h3, ?_⟩
 ·
  rw [(ha b (jw.2 hb)).1, hw, h2, SV.agrees ha hall]
 ·
  rw [(ha b (jw.2 hb)).2]; exact h4
theorem jFA {π : Pi} {st : AS} {w w' : World} (h : HRel π st w) (cells : List SV) (hall : cells.all (SV.all (below st.next)) = true) (elem : TypeId) (op : Bool) (z : Nat) (ro : Bool) (fz : Nat × Nat) (hro : ro = false → fz = (0, 0)) (rest : List Value) (R : Nat)
  (hw : w'.heap = w.heap.push (.cells (cells.map (SV.conc π) ++ rest).toArray elem fz)) (hos : w'.os = w.os) (htp : w'.tape = w.tape) (hou : w'.output = w.output)
  (h0 : op = false → rest = []) (h1 : op = true → cells.length + rest.length = R * z) :
  ∃ π', π'.mu st.next = w.heap.size ∧ π'.room st.next = R ∧ HRel π' (⟨(st.next, ⟨cells, elem, op, z, ro⟩) :: st.heap, st.next + 1, st.wr⟩ : AS) w' ∧ Tr π st w π' (⟨(st.next, ⟨cells, elem, op, z, ro⟩) :: st.heap, st.next + 1, st.wr⟩ : AS) w' := by
 let π' : Pi := { mu := fun b => if b = st.next then w.heap.size else π.mu b, room := fun b => if b = st.next then R else π.room b }
 have ha : Agree (below st.next) π π' := fun b hb => by
  have : b ≠ st.next := by have := jw.1 hb; omega
  exact ⟨if_neg this, if_neg this⟩
 have hmu : π'.mu st.next = w.heap.size := if_pos rfl
 have hrm : π'.room st.next = R := if_pos rfl
 have hold : ∀ r, r < w.heap.size → w'.heap[r]? = w.heap[r]? := fun r hr => by
  rw [hw, Array.getElem?_push, if_neg (by omega)]
 have hne : ∀ b k, hget st.heap b = some k → b ≠ st.next := fun b k hb => by have := (h.blk b k hb).1; omega
 have hg : ∀ b k, hget (⟨(st.next, ⟨cells, elem, op, z, ro⟩) :: st.heap, st.next + 1, st.wr⟩ : AS).heap b = some k → (b = st.next ∧ k = ⟨cells, elem, op, z, ro⟩) ∨ hget st.heap b = some k := fun b k hb => by
  rw [jm] at hb
  split at hb
  ·
   rename_i e; exact .inl ⟨e.symm, (Option.some.inj hb).symm⟩
  ·
   exact .inr hb
 refine ⟨π', hmu, hrm, ⟨?_, ?_⟩, ?_⟩
 ·
  intro b k hb
  rcases hg b k hb with ⟨rfl, rfl⟩ | hb
  ·
   refine ⟨Nat.lt_succ_self _, ⟨rest, fz, ?_, hro, h0, ?_⟩, SVs.vK (zK (Nat.le_succ _)) hall⟩
   ·
    rw [hmu, hw, SV.agrees ha hall]; simp
   ·
    rw [hrm]; exact h1
  ·
   obtain ⟨b1, b2, b3⟩ := h.blk b k hb
   exact ⟨Nat.lt_succ_of_lt b1, b2.agree b1 b3 ha (hold _ (h.lt hb)), SVs.vK (zK (Nat.le_succ _)) b3⟩
 ·
  intro b b' k k' hb hb' e
  rcases hg b k hb with ⟨rfl, rfl⟩ | hb <;> rcases hg b' k' hb' with ⟨rfl, rfl⟩ | hb'
  ·
   rfl
  ·
   rw [hmu, (ha b' (jw.2 (h.blk b' k' hb').1)).1] at e
   have := h.lt hb'; omega
  ·
   rw [hmu, (ha b (jw.2 (h.blk b k hb).1)).1] at e
   have := h.lt hb; omega
  ·
   rw [(ha b (jw.2 (h.blk b k hb).1)).1, (ha b' (jw.2 (h.blk b' k' hb').1)).1] at e
   exact h.inj b b' k k' hb hb' e
 ·
  exact {
   next := Nat.le_succ _
   mu := ha
   os := hos
   tape := htp
   output := hou
   size := by rw [hw, Array.size_push]; omega
   wr := fun _ hb => hb
   same := fun b hb _ => by show hget ((st.next, _) :: st.heap) b = _; rw [jm, if_neg (by omega)]
   old := fun b k' hb hk => by
    rcases hg b k' hk with ⟨rfl, -⟩ | hk
    ·
     omega
    ·
     exact ⟨k', hk⟩
   frame := fun r hr _ => hold r hr
   fresh := fun b k hb hge => by
    rcases hg b k hb with ⟨rfl, rfl⟩ | hb
    ·
     exact .inl (Nat.le_of_eq hmu.symm)
    ·
     exact absurd (h.blk b k hb).1 (Nat.not_lt.2 hge) }
theorem qw {π : Pi} {st : AS} {w w' : World} (h : HRel π st w) (cells : List SV) (hall : cells.all (SV.all (below st.next)) = true) (elem : TypeId) (op : Bool) (z : Nat) (rest : List Value) (R : Nat)
  (hw : w'.heap = w.heap.push (.cells (cells.map (SV.conc π) ++ rest).toArray elem (0, 0))) (hos : w'.os = w.os) (htp : w'.tape = w.tape) (hou : w'.output = w.output)
  (h0 : op = false → rest = []) (h1 : op = true → cells.length + rest.length = R * z) :
  ∃ π', π'.mu st.next = w.heap.size ∧ π'.room st.next = R ∧ HRel π' (jAf st cells elem op z) w' ∧ Tr π st w π' (jAf st cells elem op z) w' :=
 jFA h cells hall elem op z false (0, 0) (fun _ => rfl) rest R hw hos htp hou h0 h1
theorem jFr {π : Pi} {st : AS} {w w' : World} (h : HRel π st w) {b : Nat} {k : Blk} (hk : hget st.heap b = some k) (hro : k.ro = false) (new : List SV) (hall : new.all (SV.all (below st.next)) = true)
  (hlen : new.length = k.cells.length) (hw : ∀ rest, w.heap[π.mu b]? = some (.cells (k.cells.map (SV.conc π) ++ rest).toArray k.elem (0, 0)) → w' = w.setRow (π.mu b) (new.map (SV.conc π) ++ rest).toArray) :
  HRel π { heap := hset { k with cells := new } b st.heap, next := st.next, wr := touch st b } w' ∧
  Tr π st w π { heap := hset { k with cells := new } b st.heap, next := st.next, wr := touch st b } w' := by
 obtain ⟨rest, fz, h2, hfz, h3, h4⟩ := (h.blk b k hk).2.1
 obtain rfl := hfz hro
 obtain rfl := hw rest h2
 have hg : ∀ c k', hget (hset { k with cells := new } b st.heap) c = some k' → (c = b ∧ k' = { k with cells := new }) ∨ (c ≠ b ∧ hget st.heap c = some k') := fun c k' hc => by
  rw [jCb, hk] at hc
  by_cases e : b = c
  ·
   subst e; rw [if_pos ⟨rfl, rfl⟩] at hc; exact .inl ⟨rfl, (Option.some.inj hc).symm⟩
  ·
   rw [if_neg (fun x => e x.1)] at hc; exact .inr ⟨fun x => e x.symm, hc⟩
 refine ⟨⟨?_, ?_⟩, ?_⟩
 ·
  intro c k' hc
  rcases hg c k' hc with ⟨rfl, rfl⟩ | ⟨hne, hc⟩
  ·
   refine ⟨(h.blk c k hk).1, ⟨rest, (0, 0), setRow_heap w _ _ _ _ _ h2, fun _ => rfl, h3, ?_⟩, hall⟩
   intro ho; rw [← h4 ho]; simp only [hlen]
  ·
   obtain ⟨c1, ⟨r2, fz2, c2, c3⟩, c4⟩ := h.blk c k' hc
   refine ⟨c1, ⟨r2, fz2, ?_, c3⟩, c4⟩
   rw [setRow_other _ _ _ _ (fun e => hne (h.inj c b k' k hc hk e))]
   exact c2
 ·
  intro c c' k' k'' hc hc' e
  rcases hg c k' hc with ⟨rfl, rfl⟩ | ⟨hne, hc2⟩ <;> rcases hg c' k'' hc' with ⟨rfl, rfl⟩ | ⟨hne', hc2'⟩
  ·
   rfl
  ·
   exact h.inj _ _ _ _ hk hc2' e
  ·
   exact h.inj _ _ _ _ hc2 hk e
  ·
   exact h.inj _ _ _ _ hc2 hc2' e
 ·
  exact {
   next := Nat.le_refl _
   mu := Agree.refl _ _
   os := rfl
   tape := rfl
   output := rfl
   size := by simp
   wr := fun c hc => zh.2 (.inr hc)
   same := fun c _ hn => by
    rw [jCb, if_neg (fun x => hn (zh.2 (.inl x.1.symm)))]
   old := fun c k' _ hc => by
    rcases hg c k' hc with ⟨rfl, rfl⟩ | ⟨_, hc⟩
    ·
     exact ⟨k, hk⟩
    ·
     exact ⟨k', hc⟩
   frame := fun r hr hc => setRow_other _ _ _ _ fun e => hc b k hk (zh.2 (.inl rfl)) e.symm
   fresh := fun c k' hc hge => by
    rcases hg c k' hc with ⟨rfl, rfl⟩ | ⟨_, hc⟩
    ·
     exact absurd (h.blk c k hk).1 (Nat.not_lt.2 hge)
    ·
     exact absurd (h.blk c k' hc).1 (Nat.not_lt.2 hge) }
theorem jIV {π : Pi} {st : AS} {w w' : World} (h : HRel π st w) {b : Nat} {k : Blk} (hk : hget st.heap b = some k) (new : List SV) (hall : new.all (SV.all (below st.next)) = true)
  (rest : List Value) (hg0 : ∃ old, w.heap[π.mu b]? = some (.cells old k.elem (0, 0))) (hlen : k.cells.length + new.length + rest.length = π.room b * k.z)
  (hw : w' = w.setRow (π.mu b) ((k.cells ++ new).map (SV.conc π) ++ rest).toArray) :
  ∃ π', π'.mu st.next = π.mu b ∧ π'.room st.next = π.room b ∧
  HRel π' { heap := (st.next, ⟨k.cells ++ new, k.elem, true, k.z, false⟩) :: hdel b st.heap, next := st.next + 1, wr := touch st b } w' ∧
  Tr π st w π' { heap := (st.next, ⟨k.cells ++ new, k.elem, true, k.z, false⟩) :: hdel b st.heap, next := st.next + 1, wr := touch st b } w' := by
 subst hw
 obtain ⟨old, hg0⟩ := hg0
 let π' : Pi := { mu := fun c => if c = st.next then π.mu b else π.mu c, room := fun c => if c = st.next then π.room b else π.room c }
 have ha : Agree (below st.next) π π' := fun c hc => by
  have : c ≠ st.next := by have := jw.1 hc; omega
  exact ⟨if_neg this, if_neg this⟩
 have hmu : π'.mu st.next = π.mu b := if_pos rfl
 have hro : π'.room st.next = π.room b := if_pos rfl
 have hb0 := (h.blk b k hk).1
 have hg : ∀ c k', hget ((st.next, ⟨k.cells ++ new, k.elem, true, k.z, false⟩) :: hdel b st.heap) c = some k' →
   (c = st.next ∧ k' = ⟨k.cells ++ new, k.elem, true, k.z, false⟩) ∨ (c ≠ b ∧ hget st.heap c = some k') := fun c k' hc => by
  rw [jm] at hc
  split at hc
  ·
   rename_i e; exact .inl ⟨e.symm, (Option.some.inj hc).symm⟩
  ·
   rw [jAu] at hc
   split at hc
   ·
    simp at hc
   ·
    rename_i e; exact .inr ⟨fun x => e x.symm, hc⟩
 have hcell : (k.cells ++ new).all (SV.all (below st.next)) = true := by
  rw [List.all_append, (h.blk b k hk).2.2, hall]; rfl
 refine ⟨π', hmu, hro, ⟨?_, ?_⟩, ?_⟩
 ·
  intro c k' hc
  rcases hg c k' hc with ⟨rfl, rfl⟩ | ⟨hne, hc⟩
  ·
   refine ⟨Nat.lt_succ_self _, ⟨rest, (0, 0), ?_, fun _ => rfl, fun x => by simp at x, ?_⟩, SVs.vK (zK (Nat.le_succ _)) hcell⟩
   ·
    rw [hmu, SV.agrees ha hcell]; exact setRow_heap w _ _ _ _ _ hg0
   ·
    intro _; rw [hro, List.length_append]; exact hlen
  ·
   obtain ⟨c1, c2, c4⟩ := h.blk c k' hc
   refine ⟨Nat.lt_succ_of_lt c1, c2.agree c1 c4 ha ?_, SVs.vK (zK (Nat.le_succ _)) c4⟩
   exact setRow_other _ _ _ _ (fun e => hne (h.inj c b k' k hc hk e))
 ·
  intro c c' k' k'' hc hc' e
  have hm : ∀ c k', hget st.heap c = some k' → π'.mu c = π.mu c := fun c k' hc => (ha c (jw.2 (h.blk c k' hc).1)).1
  rcases hg c k' hc with ⟨rfl, rfl⟩ | ⟨hne, hc⟩ <;> rcases hg c' k'' hc' with ⟨rfl, rfl⟩ | ⟨hne', hc'⟩
  ·
   rfl
  ·
   rw [hmu, hm c' k'' hc'] at e; exact absurd (h.inj _ _ _ _ hk hc' e).symm hne'
  ·
   rw [hmu, hm c k' hc] at e; exact absurd (h.inj _ _ _ _ hc hk e) hne
  ·
   rw [hm c k' hc, hm c' k'' hc'] at e; exact h.inj _ _ _ _ hc hc' e
 ·
  exact {
   next := Nat.le_succ _
   mu := ha
   os := rfl
   tape := rfl
   output := rfl
   size := by simp
   wr := fun c hc => zh.2 (.inr hc)
   same := fun c hc hn => by
    show hget ((st.next, _) :: hdel b st.heap) c = _
    rw [jm, if_neg (by omega), jAu, if_neg (fun x => hn (zh.2 (.inl x.symm)))]
   old := fun c k' hc1 hc => by
    rcases hg c k' hc with ⟨rfl, rfl⟩ | ⟨_, hc⟩
    ·
     omega
    ·
     exact ⟨k', hc⟩
   frame := fun r hr hc => setRow_other _ _ _ _ fun e => hc b k hk (zh.2 (.inl rfl)) e.symm
   fresh := fun c k' hc hge => by
    rcases hg c k' hc with ⟨rfl, rfl⟩ | ⟨_, hc⟩
    ·
     exact .inr ⟨b, k, hk, zh.2 (.inl rfl), hmu⟩
    ·
     exact absurd (h.blk c k' hc).1 (Nat.not_lt.2 hge) }
theorem Tr.drop {π : Pi} {st : AS} {w : World} {π' : Pi} {st' : AS} {w' : World} (h : Tr π st w π' st' w') (hp : Heap) (wr : List Nat)
  (hs : ∀ c k, hget hp c = some k → hget st'.heap c = some k) (hwr : ∀ c, c ∈ st'.wr → c ∈ wr) (hd : ∀ c, c < st.next → c ∉ wr → hget hp c = hget st'.heap c) :
  Tr π st w π' { heap := hp, next := st'.next, wr := wr } w' := { h with
 wr := fun c hc => hwr c (h.wr c hc)
 same := fun c hc hn => (hd c hc hn).trans (h.same c hc fun x => hn (hwr c x))
 old := fun c k' hc hk => h.old c k' hc (hs c k' hk)
 frame := fun r hr hc => h.frame r hr fun c k hk hm => hc c k hk (hwr c hm)
 fresh := fun c k hk hge => (h.fresh c k (hs c k hk) hge).imp id fun ⟨b0, k0, h1, h2, h3⟩ => ⟨b0, k0, h1, hwr b0 h2, h3⟩ }
theorem foldl_set (off : Nat) : ∀ (vs : List Value) (i : Nat) (cs : Array Value), off + i + vs.length ≤ cs.size →
  (vs.zipIdx i).foldl (fun (cs : Array Value) (p : Value × Nat) => cs.setIfInBounds (off + p.2) p.1) cs = (cs.toList.take (off + i) ++ vs ++ cs.toList.drop (off + i + vs.length)).toArray
 | [], i, cs, _ => by simp
 | v :: t, i, cs, h => by
  rw [List.length_cons] at h
  rw [List.zipIdx_cons, List.foldl_cons, foldl_set off t (i + 1) _ (by rw [Array.size_setIfInBounds]; omega)]
  congr 1
  rw [Array.toList_setIfInBounds]
  have hl : off + i < cs.toList.length := by rw [Array.length_toList]; omega
  have e1 : (cs.toList.set (off + i) v).take (off + (i + 1)) = cs.toList.take (off + i) ++ [v] := by
   rw [show off + (i + 1) = off + i + 1 from rfl, List.take_succ_eq_append_getElem (by simpa using hl), List.take_set_of_le (Nat.le_refl _), List.getElem_set_self]
  have e2 : (cs.toList.set (off + i) v).drop (off + (i + 1) + t.length) = cs.toList.drop (off + i + (v :: t).length) := by
   rw [List.drop_set_of_lt (by omega), List.length_cons]; congr 1; omega
  rw [e1, e2]; simp
theorem jBn {l v : List SV} {off : Nat} (h : off + v.length ≤ l.length) : (qX l off v).length = l.length := by
 simp [qX]; omega
theorem jBv {l v : List SV} {off : Nat} {p : SV → Bool} (h : l.all p = true) (g : v.all p = true) : (qX l off v).all p = true := by
 unfold qX
 rw [List.all_append, List.all_append, g, Bool.and_true, Bool.and_eq_true]
 exact ⟨List.all_eq_true.2 fun s hs => List.all_eq_true.1 h s (List.mem_of_mem_take hs), List.all_eq_true.2 fun s hs => List.all_eq_true.1 h s (List.mem_of_mem_drop hs)⟩
theorem jCH {place : Nat → Option (Nat × Nat)} (π : Pi) : ∀ {parts : List (Nat × AV)} {cells r : List SV}, jHp place cells parts = some r →
  Instr.fill place (cells.map (SV.conc π)).toArray (parts.map fun q => (q.1, q.2.conc π)) = some (r.map (SV.conc π)).toArray ∧
  ∀ n, cells.all (SV.all (below n)) = true → (∀ q ∈ parts, q.2.all (below n) = true) → r.all (SV.all (below n)) = true := by
 intro parts
 induction parts with
 | nil => intro cells r h; simp only [jHp, Option.some.injEq] at h; subst h; exact ⟨rfl, fun _ h _ => h⟩
 | cons q t ih =>
  obtain ⟨i, v⟩ := q
  intro cells r h
  simp only [jHp] at h
  split at h
  ·
   simp at h
  ·
   rename_i off size hp
   simp only [Bool.cond_eq_ite, Bool.and_eq_true, Nat.beq_eq, Nat.ble_eq] at h
   split at h
   ·
    rename_i hc
    obtain ⟨hc1, hc2⟩ := hc
    have g := ih h
    have hcs : (v.conc π).cells.size = size := by rw [AV.jAx]; simp [hc1]
    refine ⟨?_, ?_⟩
    ·
     simp only [List.map_cons, Instr.fill, hp]
     rw [if_neg (by simp [hcs]; omega)]
     have hfold : ((v.conc π).cells.zipIdx.foldl (fun (cs : Array Value) (x : Value × Nat) => match x with | (c, j) => cs.setIfInBounds (off + j) c) (cells.map (SV.conc π)).toArray) =
       ((qX cells off v.cells).map (SV.conc π)).toArray := by
      have := foldl_set off (v.cells.map (SV.conc π)) 0 (cells.map (SV.conc π)).toArray (by simp; omega)
      rw [AV.jAx]
      simp only [Array.zipIdx_toArray, List.size_toArray, List.length_zipIdx, List.foldl_toArray']
      simp only [Nat.add_zero] at this
      rw [this]
      simp [qX, List.map_take, List.map_drop]
     rw [hfold]
     exact g.1
    ·
     intro n hn hq
     refine g.2 n (jBv hn ?_) fun q hm => hq q (List.mem_cons_of_mem _ hm)
     have := hq (i, v) (List.mem_cons_self ..)
     cases v with
     | sc s => simpa [AV.cells, AV.all] using this
     | agg l => exact this
   ·
    simp at h
theorem zM {t : TypeId} {z : List SV} (h : zeroCells P t = some z) :
  ∃ i zv, P.info? t = some i ∧ i.zero = some zv ∧ ∀ π : Pi, zv.cells = (z.map (SV.conc π)).toArray ∧ ∀ n, z.all (SV.all (below n)) = true := by
 unfold zeroCells at h
 split at h
 ·
  rename_i i hi
  split at h
  ·
   rename_i zv hz
   refine ⟨i, zv, hi, hz, fun π => ⟨?_, fun n => (jCo h π (below n)).2⟩⟩
   rw [(jCo h π (below 0)).1, Array.toArray_toList]
  ·
   simp at h
 ·
  simp at h
theorem jAw : ∀ {fs : List Field} {pl : List (Nat × Nat)}, jAc P fs = some pl → fs.mapM (fun f => (P.info? f.type).map fun i => (f.offset, i.size)) = some pl
 | [], pl, h => by simp only [jAc, Option.some.injEq] at h; subst h; rfl
 | f :: t, pl, h => by
  simp only [jAc] at h
  split at h
  ·
   rename_i z l hz hl
   simp only [Option.some.injEq] at h; subst h
   obtain ⟨i, hi, rfl⟩ := jFv hz
   simp [jAw hl, hi]
  ·
   simp at h
theorem jGv {t : TypeId} {parts : List (Nat × AV)} {v : AV} (h : jLr P t parts = some v) (π : Pi) (w : World) :
  (Instr.build t (parts.map fun q => (q.1, q.2.conc π)).toArray).run P w = .ok (v.conc π) w ∧
  ∀ n, (∀ q ∈ parts, q.2.all (below n) = true) → v.all (below n) = true := by
 unfold jLr at h
 split at h
 ·
  rename_i z fs hz hu
  split at h
  ·
   rename_i pl hp
   rw [Option.map_eq_some_iff] at h
   obtain ⟨r, hr, rfl⟩ := h
   obtain ⟨i, zv, hi, hzv, hzc⟩ := zM hz
   have g := jCH π hr
   refine ⟨run_build w t _ _ ?_, fun n hn => g.2 n ((hzc π).2 n) hn⟩
   simp only [Program.built, hi, hu, hzv, jAw hp, (hzc π).1]
   simpa using g.1
  ·
   simp at h
 ·
  rename_i z n e hz hu
  split at h
  ·
   rename_i s hs
   rw [Option.map_eq_some_iff] at h
   obtain ⟨r, hr, rfl⟩ := h
   obtain ⟨i, zv, hi, hzv, hzc⟩ := zM hz
   obtain ⟨ie, hie, rfl⟩ := jFv hs
   have g := jCH π hr
   refine ⟨run_build w t _ _ ?_, fun n hn => g.2 n ((hzc π).2 n) hn⟩
   simp only [Program.built, hi, hu, hzv, hie, (hzc π).1]
   simpa using g.1
  ·
   simp at h
 ·
  simp at h
end Go.Ev
namespace Go.Ev
variable {P : Program}
def Does (P : Program) (s : Sem Next) (π : Pi) (st : AS) (w : World) (v : TV) (st' : AS) : Prop :=
 ∃ π' w', (s.run P w = .ok (.value (v.conc π')) w' ∨ (s.run P w = .ok .skip w' ∧ v = .tup [])) ∧ HRel π' st' w' ∧ Tr π st w π' st' w'
theorem Does.same {s : Sem Next} {π : Pi} {st : AS} {w : World} {v : TV} (h : HRel π st w) (hr : s.run P w = .ok (.value (v.conc π)) w) : Does P s π st w v st :=
 ⟨π, w, .inl hr, h, Tr.refl h⟩
theorem jGm {π : Pi} {st st' : AS} {w : World} (h : HRel π st w) {t : TypeId} {a : SV} {v : AV} (hv : v.all (below st.next) = true) (hs : jLc P st t a v = some st') :
  ∃ w', (Instr.storeAt t (a.conc π) (v.conc π)).run P w = .ok () w' ∧ HRel π st' w' ∧ Tr π st w π st' w' := by
 unfold jLc at hs
 split at hs
 ·
  rename_i b off
  split at hs
  ·
   rename_i k n hk hz
   simp only [Bool.cond_eq_ite, Bool.and_eq_true, Nat.beq_eq, Nat.ble_eq, Bool.not_eq_true'] at hs
   split at hs
   ·
    rename_i hc
    obtain ⟨⟨hc1, hc2⟩, hro⟩ := hc
    simp only [Option.some.injEq] at hs
    subst hs
    obtain ⟨-, ⟨rest, fz, h2, hfz, -⟩, hall⟩ := h.blk b k hk
    obtain rfl := hfz hro
    have hvc : v.cells.all (SV.all (below st.next)) = true := by
     cases v with
     | sc s => simpa [AV.cells, AV.all] using hv
     | agg l => exact hv
    have hrun := run_storeCells_at (P := P) (π.mu b) off k.elem (v.cells.map (SV.conc π)) 0 (k.cells.map (SV.conc π) ++ rest).toArray w h2 (by simp; omega)
     (by intro u hu; rw [List.mem_map] at hu; obtain ⟨s, -, rfl⟩ := hu; exact SV.one π s)
    have hw := jFr (w' := w.setRow (π.mu b) ((qX k.cells off v.cells).map (SV.conc π) ++ rest).toArray) h hk hro (qX k.cells off v.cells) (jBv hall hvc) (jBn (by omega))
     (by
      intro r2 e2
      have : rest = r2 := by
       have := h2.symm.trans e2
       simpa using this
      rw [this])
    refine ⟨_, ?_, hw.1, hw.2⟩
    have hsz : (v.conc π).cells.size = n := by rw [AV.jAx]; simp [hc1]
    simp only [Instr.storeAt, SV.conc, Instr.sureAddr, storeVar, Sem.run_bind, Sem.run_pure, Result.andThen_ok, zH hz, AV.jAx, Sem.run_ite]
    rw [if_neg (by simp [hc1])]
    simp only [hrun]
    congr 2
    simp only [qX, List.length_map, Nat.add_zero]
    have e1 : (List.map (SV.conc π) k.cells ++ rest).take off = (List.map (SV.conc π) k.cells).take off := List.take_append_of_le_length (by simp; omega)
    have e2 : (List.map (SV.conc π) k.cells ++ rest).drop (off + v.cells.length) = (List.map (SV.conc π) k.cells).drop (off + v.cells.length) ++ rest := List.drop_append_of_le_length (by simp; omega)
    simp only [e1, e2, List.map_append, List.map_take, List.map_drop, List.append_assoc]
   ·
    simp at hs
  ·
   simp at hs
 ·
  simp at hs
theorem jGw {π : Pi} {st : AS} {w : World} (h : HRel π st w) {t : TypeId} {s : SV} {st' : AS} (hs : jLv P st t = some (s, st')) :
  ∃ π' w', (Instr.alloc t true (.tuple #[])).run P w = .ok (s.conc π') w' ∧ HRel π' st' w' ∧ Tr π st w π' st' w' := by
 unfold jLv at hs
 rw [Option.map_eq_some_iff] at hs
 obtain ⟨z, hz, he⟩ := hs
 simp only [Prod.mk.injEq] at he
 obtain ⟨rfl, rfl⟩ := he
 obtain ⟨i, zv, hi, hzv, hzc⟩ := zM hz
 obtain ⟨π', h1, h2, h3, h4⟩ := qw (w' := w.alloc (.cells (z.map (SV.conc π)).toArray t (0, 0))) h z ((hzc π).2 _) t false 0 [] 0 (by rw [List.append_nil]; rfl) rfl rfl rfl (fun _ => rfl) (fun x => by simp at x)
 refine ⟨π', _, ?_, h3, h4⟩
 simp [Instr.alloc, zeroValue, typeInfo, hi, hzv, newVar, newRow, (hzc π).1, SV.conc, h1]
theorem jJg {π : Pi} {st : AS} {w : World} (h : HRel π st w) (t : TypeId) {v : AV} (hv : v.all (below st.next) = true) :
  ∃ π' w', (Instr.box t (v.conc π)).run P w = .ok ((abox st t v).1.conc π') w' ∧ HRel π' (abox st t v).2 w' ∧ Tr π st w π' (abox st t v).2 w' := by
 have hvc : v.cells.all (SV.all (below st.next)) = true := by
  cases v with
  | sc s => simpa [AV.cells, AV.all] using hv
  | agg l => exact hv
 obtain ⟨π', h1, h2, h3, h4⟩ := qw (w' := w.alloc (.cells (v.cells.map (SV.conc π)).toArray t (0, 0))) h v.cells hvc t false 0 [] 0 (by rw [List.append_nil]; rfl) rfl rfl rfl (fun _ => rfl) (fun x => by simp at x)
 refine ⟨π', _, ?_, h3, h4⟩
 simp [Instr.box, newVar, newRow, AV.jAx, abox, SV.conc, h1]
theorem jBW {z : List SV} {s : Nat} (h : z.length = s) : ∀ n, (qC z n).length = n * s
 | 0 => by simp [qC]
 | n + 1 => by rw [qC, List.length_append, jBW h n, h, Nat.succ_mul]; omega
theorem jBX {z : List SV} {p : SV → Bool} (h : z.all p = true) : ∀ n, (qC z n).all p = true
 | 0 => rfl
 | n + 1 => by rw [qC, List.all_append, h, jBX h n]; rfl
theorem jDh (A : Array Value) (l : List Value) (hA : A.toList = l) (s : Nat) (hs : l.length = s) : ∀ n,
  (List.range (n * s)).map (fun i => A[i % s]!) = (List.replicate n l).flatten
 | 0 => by simp
 | n + 1 => by
  rcases Nat.eq_zero_or_pos s with h0 | hpos
  ·
   subst h0
   have : l = [] := List.length_eq_zero_iff.1 hs
   subst this
   simp
  ·
   rw [Nat.succ_mul, Nat.add_comm, List.range_add, List.map_append, List.map_map, List.replicate_succ, List.flatten_cons]
   congr 1
   ·
    apply List.ext_getElem
    ·
     simp [hs]
    ·
     intro i h1 h2
     simp only [List.getElem_map, List.getElem_range]
     have hi : i < s := by simpa using h1
     rw [Nat.mod_eq_of_lt hi]
     have hAs : i < A.size := by rw [← Array.length_toList, hA, hs]; exact hi
     rw [getElem!_pos A i hAs]
     subst hA
     simp
   ·
    rw [← jDh A l hA s hs n]
    apply List.map_congr_left
    intro i _
    simp [Nat.add_mod_left]
theorem jAP (z : List SV) (π : Pi) : ∀ n, (qC z n).map (SV.conc π) = (List.replicate n (z.map (SV.conc π))).flatten
 | 0 => rfl
 | n + 1 => by rw [qC, List.map_append, jAP z π n, List.replicate_succ, List.flatten_cons]
theorem jEW {π : Pi} {st : AS} {w : World} (h : HRel π st w) {t : TypeId} {len : Nat} {parts : List (Nat × AV)} (hp : ∀ q ∈ parts, q.2.all (below st.next) = true) {s : SV} {st' : AS}
  (hs : jFi P st t len parts = some (s, st')) :
  ∃ π' w', (Instr.buildSlice t len (parts.map fun q => (q.1, q.2.conc π)).toArray).run P w = .ok (s.conc π') w' ∧ HRel π' st' w' ∧ Tr π st w π' st' w' := by
 unfold jFi at hs
 split at hs
 ·
  rename_i e he
  unfold qo at he
  split at he
  ·
   rename_i e' hu
   simp only [Option.some.injEq] at he; subst he
   split at hs
   ·
    rename_i s0 z hz hzc
    simp only [Bool.cond_eq_ite, Bool.and_eq_true, Nat.beq_eq, Nat.ble_eq] at hs
    split at hs
    ·
     rename_i hc
     split at hs
     ·
      rename_i cells hf
      simp only [Option.some.injEq, Prod.mk.injEq] at hs
      obtain ⟨rfl, rfl⟩ := hs
      obtain ⟨i, zv, hi, hzv, hzq⟩ := zM hzc
      have g := jCH π hf
      have hall := g.2 st.next (jBX ((hzq π).2 _) len) hp
      obtain ⟨π', h1, h2, h3, h4⟩ := qw (w' := w.alloc (.cells (cells.map (SV.conc π)).toArray e' (0, 0))) h cells hall e' false s0 [] 0 (by rw [List.append_nil]; rfl) rfl rfl rfl (fun _ => rfl) (fun x => by simp at x)
      refine ⟨π', _, ?_, h3, h4⟩
      have hzero : (Array.range (len * s0)).map (fun i => (if len * s0 = 0 then #[] else zv.cells)[i % (if len * s0 = 0 then #[] else zv.cells).size]!) = ((qC z len).map (SV.conc π)).toArray := by
       by_cases h0 : len * s0 = 0
       ·
        have : qC z len = [] := List.length_eq_zero_iff.1 (by rw [jBW hc.2, h0])
        rw [this, h0]; simp
       ·
        simp only [if_neg h0]
        have hsz : zv.cells.size = s0 := by rw [(hzq π).1]; simp [hc.2]
        rw [hsz]
        have := jDh zv.cells (z.map (SV.conc π)) (by rw [(hzq π).1]) s0 (by simp [hc.2]) len
        rw [jAP, ← this]
        apply Array.toList_inj.1
        simp
      have hle : ¬ (len * s0 > 2 ^ 24) := by have := hc.1; omega
      by_cases h0 : len * s0 = 0
      ·
       simp only [if_pos h0] at hzero
       simp only [Instr.buildSlice, Sem.run_bind, run_underlying hu, Result.andThen_ok, zH hz, Sem.run_ite, if_neg hle, Sem.run_pure, if_pos h0, hzero, g.1, newRow, run_newObj, SV.conc, h1]
       simp [h1]
      ·
       simp only [if_neg h0] at hzero
       simp only [Instr.buildSlice, Sem.run_bind, run_underlying hu, Result.andThen_ok, zH hz, Sem.run_ite, if_neg hle, Sem.run_pure, if_neg h0, zeroValue, typeInfo, run_program, hi, hzv, hzero, g.1, newRow, run_newObj, SV.conc, h1]
       simp [h1]
     ·
      simp at hs
    ·
     simp at hs
   ·
    simp at hs
  ·
   simp at he
 ·
  simp at hs
end Go.Ev
namespace Go.Ev
variable {P : Program}
theorem jBl {hi lo : Option SV} {len h l cap : Nat} (hh : hiB hi len = some h) (hl : loB lo h = some l) (hc : len ≤ cap) (b : Bool) (π : Pi) (w : World) :
  (Instr.sliceBounds b len cap (lo.map (SV.conc π)) (hi.map (SV.conc π)) none).run P w = .ok (l, h, cap) w ∧ h ≤ len ∧ l ≤ h := by
 cases hi with
 | none =>
  simp only [hiB, Option.some.injEq] at hh; subst hh
  cases lo with
  | none => simp only [loB, Option.some.injEq] at hl; subst hl; exact ⟨by simp [Instr.sliceBounds], Nat.le_refl _, Nat.zero_le _⟩
  | some v =>
   have g := jCG (P := P) (x := v) hl (Nat.le_refl _) π .sliceB w
   exact ⟨by simp [Instr.sliceBounds, g.1], Nat.le_refl _, g.2⟩
 | some u =>
  have g0 := fun c => jCG (P := P) (x := u) hh hc π c w
  cases lo with
  | none => simp only [loB, Option.some.injEq] at hl; subst hl; exact ⟨by simp [Instr.sliceBounds, (g0 _).1], (g0 .sliceB).2, Nat.zero_le _⟩
  | some v =>
   have g := jCG (P := P) (x := v) hl (Nat.le_refl _) π .sliceB w
   exact ⟨by simp [Instr.sliceBounds, (g0 _).1, g.1], (g0 .sliceB).2, g.2⟩
theorem jHI {π : Pi} {w : World} {b : Nat} {k : Blk} (h : BRel π w b k) (ho : k.op = true) {len : Nat} (hz : 1 ≤ k.z) (hl : len * k.z ≤ k.cells.length) : len ≤ π.room b := by
 obtain ⟨rest, fz, -, -, -, h3⟩ := h
 have := h3 ho
 have : len * k.z ≤ π.room b * k.z := by omega
 exact Nat.le_of_mul_le_mul_right this hz
theorem jGn {π : Pi} {st : AS} {w : World} (h : HRel π st w) {t : TypeId} {x : SV} {lo hi : Option SV} {s : SV} (hs : aslice P st t x lo hi = some s) :
  (Instr.sliceAt t (x.conc π) (lo.map (SV.conc π)) (hi.map (SV.conc π)) none).run P w = .ok (s.conc π) w := by
 unfold aslice at hs
 split at hs
 ·
  rename_i s0 hu
  split at hs
  ·
   rename_i hh hhi
   split at hs
   ·
    rename_i l hlo
    simp only [Option.some.injEq] at hs; subst hs
    have g := jBl (P := P) hhi hlo (Nat.le_refl _) false π w
    simp [Instr.sliceAt, run_underlying hu, Instr.slice, SV.conc, g.1]
   ·
    simp at hs
  ·
   simp at hs
 ·
  rename_i e b off len c op hu
  split at hs
  ·
   rename_i z k hz hk
   split at hs
   ·
    rename_i hh hhi
    split at hs
    ·
     rename_i l hlo
     split at hs
     ·
      rename_i hop
      simp only [Bool.cond_eq_ite, Bool.and_eq_true, Nat.beq_eq, Nat.ble_eq] at hs
      split at hs
      ·
       rename_i hc
       obtain ⟨⟨⟨⟨⟨rfl, rfl⟩, hko⟩, hkz⟩, hz1⟩, hl⟩ := hc
       simp only [Option.some.injEq] at hs; subst hs
       have hroom := jHI (h.blk b k hk).2.1 hko (len := len) (by omega) (by rw [hkz]; exact hl)
       have g := jBl (P := P) hhi hlo hroom true π w
       simp [Instr.sliceAt, run_underlying hu, Instr.slice, SV.conc, hop, g.1, zH hz, Addr.jCg]
      ·
       simp at hs
     ·
      rename_i hop
      simp only [Bool.cond_eq_ite, Nat.ble_eq] at hs
      split at hs
      ·
       rename_i hc
       simp only [Option.some.injEq] at hs; subst hs
       have g := jBl (P := P) hhi hlo hc true π w
       simp only [Instr.sliceAt, Sem.run_bind, run_underlying hu, Result.andThen_ok, Instr.slice, SV.conc, if_neg hop, g.1, zH hz, Sem.run_pure, Bool.false_eq_true, if_false]
       split <;> simp [Addr.jCg]
      ·
       simp at hs
    ·
     simp at hs
   ·
    simp at hs
  ·
   simp at hs
 ·
  rename_i e hu
  split at hs
  ·
   rename_i z a1 a2 hz h1 h2
   simp only [Option.some.injEq] at hs; subst hs
   have e1 : hiB hi 0 = some a1 := h1
   have e2 : loB lo 0 = some a2 := h2
   have ha1 : a1 = 0 := by
    cases hi with
    | none => simpa [hiB] using e1.symm
    | some v => have := (jCG (P := P) (x := v) e1 (Nat.le_refl _) π .sliceB w).2; omega
   subst ha1
   have g := jBl (P := P) e1 e2 (Nat.le_refl _) true π w
   have ha2 : a2 = 0 := by have := g.2.2; omega
   subst ha2
   simp [Instr.sliceAt, run_underlying hu, Instr.slice, SV.conc, g.1, zH hz]
  ·
   simp at hs
 ·
  simp at hs
theorem jBz {π : Pi} {st : AS} {w : World} (h : HRel π st w) {z : Nat} {x : SV} {n : Nat} {new : List SV} (hr : rowOf st z x = some (n, new)) :
  ∃ a c, x.conc π = .slice (some a) n c ∧ new.length = n * z ∧ (∀ j v, (new.map (SV.conc π))[j]? = some v → w.cell? (a.add j) = some v) ∧ new.all (SV.all (below st.next)) = true := by
 unfold rowOf at hr
 split at hr
 ·
  rename_i b off len c op
  split at hr
  ·
   rename_i k hk
   rw [Option.map_eq_some_iff] at hr
   obtain ⟨l, hl, he⟩ := hr
   simp only [Prod.mk.injEq] at he
   obtain ⟨rfl, rfl⟩ := he
   obtain ⟨-, h2, h3⟩ := h.blk b k hk
   exact ⟨_, _, rfl, (jAk hl).2, h2.jCs hl, jHf hl h3⟩
  ·
   simp at hr
 ·
  simp at hr
theorem jKg (π : Pi) (l : List SV) : ∀ u ∈ l.map (SV.conc π), u.oneCell' = true := by
 intro u hu; rw [List.mem_map] at hu; obtain ⟨s, -, rfl⟩ := hu; exact SV.one π s
theorem jFj {π : Pi} {st : AS} {w : World} (h : HRel π st w) {t ty : TypeId} {s x r : SV} {st' : AS} (hs : jHt P st t s x = some (r, st')) :
  ∃ π' w', (Builtin.append_ #[t, t] ty #[s.conc π, x.conc π]).run P w = .ok (r.conc π') w' ∧ HRel π' st' w' ∧ Tr π st w π' st' w' := by
 unfold jHt at hs
 split at hs
 rotate_left
 ·
  simp at hs
 rename_i e he
 have hu := zu he
 split at hs
 rotate_left
 ·
  simp at hs
 rename_i i zc hi hzc
 split at hs
 rotate_left
 ·
  simp at hs
 rename_i n new hrow
 obtain ⟨i', zv, hi', hzv, hzq⟩ := zM hzc
 obtain rfl : i = i' := Option.some.inj (hi.symm.trans hi')
 obtain ⟨ax, cx, hx, hnl, hnc, hnall⟩ := jBz h hrow
 simp only [Bool.cond_eq_ite, Bool.and_eq_true, Nat.beq_eq, Nat.ble_eq, Bool.not_eq_true'] at hs
 split at hs
 rotate_left
 ·
  simp at hs
 rename_i hcond
 obtain ⟨⟨⟨hzl, hz1⟩, hby⟩, hn6⟩ := hcond
 have hzs : zv.cells.size = i.size := by rw [(hzq π).1]; simp [hzl]
 have hrest : ∀ m, (Builtin.zeroCells zv.cells m).size = m * i.size := fun m => by rw [size_zeroCells, hzs]
 have hrl : ∀ m, (Builtin.zeroCells zv.cells m).toList.length = m * i.size := fun m => by rw [Array.length_toList, hrest]
 have hnl' : (new.map (SV.conc π)).length = n * i.size := by rw [List.length_map, hnl]
 split at hs
 ·
  split at hs
  ·
   simp at hs
  ·
   rename_i hn0
   simp only [Option.some.injEq, Prod.mk.injEq] at hs
   obtain ⟨rfl, rfl⟩ := hs
   have hrun := run_append_nil (P := P) w t ty e i zv hu hi hzv ax n cx (new.map (SV.conc π)) hnl' hnc (by omega) (by omega) (by
    have : n * i.bytes ≤ 1000000 * 1000000 := Nat.mul_le_mul hn6 hby
    omega)
   have hge := grownCap_ge w n 0 e
   obtain ⟨π', h1, h2, h3, h4⟩ := qw (w' := w.drew.alloc (.cells ((new.map (SV.conc π)).toArray ++ Builtin.zeroCells zv.cells (grownCap w n 0 e - n)) e)) h new hnall e true i.size
    (Builtin.zeroCells zv.cells (grownCap w n 0 e - n)).toList (grownCap w n 0 e) (by
     show w.heap.push _ = _
     congr 2
     apply Array.toList_inj.1; simp) rfl rfl rfl (fun x => by simp at x) (fun _ => by
     rw [hrl, hnl, ← Nat.add_mul]; congr 1; omega)
   refine ⟨π', _, ?_, h3, h4⟩
   rw [hx]
   simp only [SV.conc, h1, h2, if_true]
   exact hrun
 ·
  rename_i b off len c
  split at hs
  rotate_left
  ·
   simp at hs
  rename_i k hk
  obtain ⟨-, hb, hall⟩ := h.blk b k hk
  split at hs
  rotate_left
  ·
   simp at hs
  rename_i hlen
  split at hs
  ·
   rename_i hfit
   split at hs
   rotate_left
   ·
    simp at hs
   rename_i hcc
   obtain ⟨⟨⟨rfl, hel⟩, hroom⟩, hro⟩ := hcc
   simp only [Option.some.injEq, Prod.mk.injEq] at hs
   obtain ⟨rfl, rfl⟩ := hs
   obtain ⟨rest, fz, h2, hfz, -⟩ := hb
   obtain rfl := hfz hro
   have hrun := run_append_room (P := P) w t ty e i hu hi (π.mu b) len c _ (hel ▸ h2) ax n cx (new.map (SV.conc π)) hnl' hnc (jKg π new) hfit (by simp [hnl]; omega)
   have hw := jFr (w' := w.setRow (π.mu b) ((qX k.cells (len * i.size) new).map (SV.conc π) ++ rest).toArray) h hk hro (qX k.cells (len * i.size) new) (jBv hall hnall) (jBn (by omega))
    (by
     intro r2 e2
     have : rest = r2 := by
      have := h2.symm.trans e2
      simpa using this
     rw [this])
   refine ⟨π, _, ?_, hw.1, hw.2⟩
   rw [hx]
   simp only [SV.conc, Bool.false_eq_true, if_false]
   rw [hrun]
   congr 2
   simp only [qX, List.length_map]
   have e1 : (List.map (SV.conc π) k.cells ++ rest).take (len * i.size) = (List.map (SV.conc π) k.cells).take (len * i.size) := List.take_append_of_le_length (by simp; omega)
   have e2 : (List.map (SV.conc π) k.cells ++ rest).drop (len * i.size + new.length) = (List.map (SV.conc π) k.cells).drop (len * i.size + new.length) ++ rest := List.drop_append_of_le_length (by simp; omega)
   simp only [e1, e2, List.map_append, List.map_take, List.map_drop, List.append_assoc]
  ·
   rename_i hfit
   split at hs
   rotate_left
   ·
    simp at hs
   rename_i old hold
   simp only [Option.some.injEq, Prod.mk.injEq] at hs
   obtain ⟨rfl, rfl⟩ := hs
   have hol : old.length = len * i.size := (jAk hold).2
   have hcap : Builtin.nextslicecap (len + n) c * i.bytes ≤ 281474976710656 := growslice_fits (by omega) (by
    have : (len + n) * i.bytes ≤ 2000000 * 1000000 := Nat.mul_le_mul (by omega) hby
    omega)
   have hrun := run_append_grow (P := P) w t ty e i zv hu hi hzv ⟨π.mu b, off, none⟩ len c (old.map (SV.conc π)) (by rw [List.length_map, hol]) (hb.jCs hold) ax n cx (new.map (SV.conc π)) hnl' hnc (by omega) (by omega) hcap
   have hge := grownCap_ge w (len + n) c e
   obtain ⟨π', h1, h2, h3, h4⟩ := qw (w' := w.drew.alloc (.cells ((old.map (SV.conc π)).toArray ++ (new.map (SV.conc π)).toArray ++ Builtin.zeroCells zv.cells (grownCap w (len + n) c e - (len + n))) e)) h (old ++ new)
    (by rw [List.all_append, jHf hold hall, hnall]; rfl) e true i.size
    (Builtin.zeroCells zv.cells (grownCap w (len + n) c e - (len + n))).toList (grownCap w (len + n) c e) (by
     show w.heap.push _ = _
     congr 2
     apply Array.toList_inj.1; simp) rfl rfl rfl (fun x => by simp at x) (fun _ => by
     rw [hrl, List.length_append, hnl, hol, ← Nat.add_mul, ← Nat.add_mul]; congr 1; omega)
   refine ⟨π', _, ?_, h3, h4⟩
   rw [hx]
   simp only [SV.conc, h1, h2, if_true, Bool.false_eq_true, if_false]
   exact hrun
 ·
  rename_i b off len c
  split at hs
  rotate_left
  ·
   simp at hs
  rename_i k hk
  obtain ⟨hbn, hb, hall⟩ := h.blk b k hk
  split at hs
  rotate_left
  ·
   simp at hs
  rename_i hcc
  obtain ⟨⟨⟨⟨⟨⟨⟨rfl, rfl⟩, hko⟩, hkz⟩, hkl⟩, hlen⟩, hel⟩, hro⟩ := hcc
  simp only [Option.some.injEq, Prod.mk.injEq] at hs
  obtain ⟨rfl, rfl⟩ := hs
  subst hel
  obtain ⟨rest, fz, h2, hfz, -, h3⟩ := id hb
  obtain rfl := hfz hro
  have hcl := h3 hko
  by_cases hfit : len + n ≤ π.room b
  ·
   have hmul : (len + n) * i.size ≤ π.room b * i.size := Nat.mul_le_mul_right _ hfit
   have hmul' : (len + n) * i.size = len * i.size + n * i.size := Nat.add_mul _ _ _
   rw [hkz] at hcl
   have hrun := run_append_room (P := P) w t ty k.elem i hu hi (π.mu b) len (π.room b) _ h2 ax n cx (new.map (SV.conc π)) hnl' hnc (jKg π new) hfit (by simp [hnl]; omega)
   obtain ⟨π', p1, p2, p3, p4⟩ := jIV (w' := w.setRow (π.mu b) ((k.cells ++ new).map (SV.conc π) ++ rest.drop new.length).toArray) h hk new hnall (rest.drop new.length) ⟨_, h2⟩
    (by rw [List.length_drop, hkz]; omega) rfl
   refine ⟨π', _, ?_, by rw [← hkz]; exact p3, by rw [← hkz]; exact p4⟩
   rw [hx]
   simp only [SV.conc, if_true, p1, p2]
   rw [hrun]
   congr 2
   have e1 : (List.map (SV.conc π) k.cells ++ rest).take (len * i.size) = List.map (SV.conc π) k.cells := by
    rw [hkl, ← List.length_map (f := SV.conc π), List.take_left']; rfl
   have e2 : (List.map (SV.conc π) k.cells ++ rest).drop (len * i.size + new.length) = rest.drop new.length := by
    rw [hkl, ← (List.length_map (SV.conc π) : (k.cells.map (SV.conc π)).length = k.cells.length), List.drop_append, List.drop_of_length_le (by omega)]
    simp
   simp only [List.length_map, e1, e2, List.map_append, List.append_assoc]
  ·
   have hcap : Builtin.nextslicecap (len + n) (π.room b) * i.bytes ≤ 281474976710656 := growslice_fits (by omega) (by
    have : (len + n) * i.bytes ≤ 2000000 * 1000000 := Nat.mul_le_mul (by omega) hby
    omega)
   have hold : cut k.cells 0 (len * i.size) = some k.cells := by
    simp only [cut, jAI, List.drop_zero, hkl]
    simp
   have hrun := run_append_grow (P := P) w t ty k.elem i zv hu hi hzv ⟨π.mu b, 0, none⟩ len (π.room b) (k.cells.map (SV.conc π)) (by rw [List.length_map, hkl]) (hb.jCs hold) ax n cx (new.map (SV.conc π)) hnl' hnc (by omega) (by omega) hcap
   have hge := grownCap_ge w (len + n) (π.room b) k.elem
   obtain ⟨π', h1, h2', h3', h4⟩ := qw (w' := w.drew.alloc (.cells ((k.cells.map (SV.conc π)).toArray ++ (new.map (SV.conc π)).toArray ++ Builtin.zeroCells zv.cells (grownCap w (len + n) (π.room b) k.elem - (len + n))) k.elem)) h (k.cells ++ new)
    (by rw [List.all_append, hall, hnall]; rfl) k.elem true i.size
    (Builtin.zeroCells zv.cells (grownCap w (len + n) (π.room b) k.elem - (len + n))).toList (grownCap w (len + n) (π.room b) k.elem) (by
     show w.heap.push _ = _
     congr 2
     apply Array.toList_inj.1; simp) rfl rfl rfl (fun x => by simp at x) (fun _ => by
     rw [hrl, List.length_append, hnl, ← hkl, ← Nat.add_mul, ← Nat.add_mul]; congr 1; omega)
   have hsub : ∀ c k', hget ((st.next, ⟨k.cells ++ new, k.elem, true, i.size, false⟩) :: hdel b st.heap) c = some k' → hget (jAf st (k.cells ++ new) k.elem true i.size).heap c = some k' := fun c k' hc => by
    rw [jAf, jm]
    rw [jm, jAu] at hc
    split at hc
    ·
     rename_i ee; rw [if_pos ee]; exact hc
    ·
     rename_i ee
     rw [if_neg ee]
     split at hc
     ·
      simp at hc
     ·
      exact hc
   refine ⟨π', _, ?_, h3'.sub hsub (Nat.le_refl _), h4.drop _ _ hsub (fun c hc => zh.2 (.inr hc)) ?_⟩
   ·
    rw [hx]
    simp only [SV.conc, h1, h2', if_true]
    exact hrun
   ·
    intro c hc hn
    have hne : st.next ≠ c := by omega
    have hbc : b ≠ c := fun e => hn (zh.2 (.inl e.symm))
    simp only [jAf, jm, jAu, if_neg hne, if_neg hbc]
 ·
  simp at hs
end Go.Ev
namespace Go.Ev
variable {P : Program}
theorem jIy {π : Pi} {st : AS} {w w' : World} (h : HRel π st w) {b : Nat} {k k2 : Blk} (hk : hget st.heap b = some k) (hall : k2.cells.all (SV.all (below st.next)) = true)
  (hb : BRel π w' b k2) (hother : ∀ r, r ≠ π.mu b → w'.heap[r]? = w.heap[r]?) (hos : w'.os = w.os) (htp : w'.tape = w.tape) (hou : w'.output = w.output) (hsz : w'.heap.size = w.heap.size) :
  HRel π { heap := hset k2 b st.heap, next := st.next, wr := touch st b } w' ∧ Tr π st w π { heap := hset k2 b st.heap, next := st.next, wr := touch st b } w' := by
 have hg : ∀ c k', hget (hset k2 b st.heap) c = some k' → (c = b ∧ k' = k2) ∨ (c ≠ b ∧ hget st.heap c = some k') := fun c k' hc => by
  rw [jCb, hk] at hc
  by_cases e : b = c
  ·
   subst e; rw [if_pos ⟨rfl, rfl⟩] at hc; exact .inl ⟨rfl, (Option.some.inj hc).symm⟩
  ·
   rw [if_neg (fun x => e x.1)] at hc; exact .inr ⟨fun x => e x.symm, hc⟩
 refine ⟨⟨?_, ?_⟩, ?_⟩
 ·
  intro c k' hc
  rcases hg c k' hc with ⟨rfl, rfl⟩ | ⟨hne, hc⟩
  ·
   exact ⟨(h.blk c k hk).1, hb, hall⟩
  ·
   obtain ⟨c1, ⟨r2, fz2, c2, c3⟩, c4⟩ := h.blk c k' hc
   exact ⟨c1, ⟨r2, fz2, (hother _ fun e => hne (h.inj c b k' k hc hk e)).trans c2, c3⟩, c4⟩
 ·
  intro c c' k' k'' hc hc' e
  rcases hg c k' hc with ⟨rfl, rfl⟩ | ⟨hne, hc2⟩ <;> rcases hg c' k'' hc' with ⟨rfl, rfl⟩ | ⟨hne', hc2'⟩
  ·
   rfl
  ·
   exact h.inj _ _ _ _ hk hc2' e
  ·
   exact h.inj _ _ _ _ hc2 hk e
  ·
   exact h.inj _ _ _ _ hc2 hc2' e
 ·
  exact {
   next := Nat.le_refl _
   mu := Agree.refl _ _
   os := hos
   tape := htp
   output := hou
   size := Nat.le_of_eq hsz.symm
   wr := fun c hc => zh.2 (.inr hc)
   same := fun c _ hn => by
    rw [jCb, if_neg (fun x => hn (zh.2 (.inl x.1.symm)))]
   old := fun c k' _ hc => by
    rcases hg c k' hc with ⟨rfl, rfl⟩ | ⟨_, hc⟩
    ·
     exact ⟨k, hk⟩
    ·
     exact ⟨k', hc⟩
   frame := fun r hr hc => hother r fun e => hc b k hk (zh.2 (.inl rfl)) e.symm
   fresh := fun c k' hc hge => by
    rcases hg c k' hc with ⟨rfl, rfl⟩ | ⟨_, hc⟩
    ·
     exact absurd (h.blk c k hk).1 (Nat.not_lt.2 hge)
    ·
     exact absurd (h.blk c k' hc).1 (Nat.not_lt.2 hge) }
theorem jCD {t : TypeId} (h : jGZ P t = true) : P.underlying t = some .string := by
 unfold jGZ at h
 split at h
 ·
  assumption
 ·
  simp at h
theorem jDr {t : TypeId} (h : jIb P t = true) : P.underlying t = some .unsafePointer := by
 unfold jIb at h
 split at h
 ·
  assumption
 ·
  simp at h
theorem jDs {t : TypeId} (h : isByte P t = true) : ∃ e, P.underlying t = some (.slice e) ∧ P.underlying e = some (.int .u8) := by
 unfold isByte at h
 split at h
 ·
  rename_i e hu
  split at h
  ·
   exact ⟨e, hu, ‹_›⟩
  ·
   simp at h
 ·
  simp at h
theorem jFe {t : TypeId} {x s : SV} (h : jHk P t x = some s) (π : Pi) (w : World) : (Instr.sliceAt t (x.conc π) none none none).run P w = .ok (s.conc π) w := by
 unfold jHk at h
 split at h
 ·
  rename_i b off
  split at h
  ·
   rename_i n e ha
   split at h
   ·
    rename_i z hz
    simp only [Option.some.injEq] at h; subst h
    simp [SV.conc, Instr.sliceAt, run_underlying (jGo ha), Instr.sureAddr, Instr.sliceBounds, zH hz, Addr.add]
   ·
    simp at h
  ·
   simp at h
 ·
  simp at h
theorem jCw {π : Pi} {st : AS} {w : World} (h : HRel π st w) {z b off len c r : Nat} {op : Bool} (hr : jID st z b off len c op = some r) : r ≤ (if op then π.room b else c) := by
 unfold jID at hr
 split at hr
 ·
  rename_i hop
  split at hr
  ·
   rename_i k hk
   simp only [Bool.cond_eq_ite, Bool.and_eq_true, Nat.beq_eq, Nat.ble_eq] at hr
   split at hr
   ·
    rename_i hc
    obtain ⟨⟨⟨⟨-, hko⟩, hkz⟩, hz1⟩, hl⟩ := hc
    simp only [Option.some.injEq] at hr; subst hr
    rw [if_pos hop]
    exact jHI (h.blk b k hk).2.1 hko (by omega) (by rw [hkz]; exact hl)
   ·
    simp at hr
  ·
   simp at hr
 ·
  rename_i hop
  simp only [Option.some.injEq] at hr; subst hr
  rw [if_neg hop]; exact Nat.le_refl _
theorem jFf {π : Pi} {st : AS} {w : World} (h : HRel π st w) {t : TypeId} {x : SV} {lo : Option SV} {hi mx s : SV} (hs : jHl P st t x lo hi mx = some s) :
  (Instr.sliceAt t (x.conc π) (lo.map (SV.conc π)) (some (hi.conc π)) (some (mx.conc π))).run P w = .ok (s.conc π) w := by
 unfold jHl at hs
 split at hs
 rotate_left
 ·
  simp at hs
 rename_i b off len c op
 split at hs
 rotate_left
 ·
  simp at hs
 rename_i e he
 have hu := zu he
 split at hs
 rotate_left
 ·
  simp at hs
 rename_i z hz
 split at hs
 rotate_left
 ·
  simp at hs
 rename_i r hr
 have hroom := jCw h hr
 split at hs
 rotate_left
 ·
  simp at hs
 rename_i m hm
 split at hs
 rotate_left
 ·
  simp at hs
 rename_i hh hhi
 split at hs
 rotate_left
 ·
  simp at hs
 rename_i l hlo
 simp only [Option.some.injEq] at hs; subst hs
 have g1 := fun cd => jCG (P := P) hm hroom π cd w
 have g2 := fun cd => jCG (P := P) hhi (Nat.le_refl m) π cd w
 have hb : (Instr.sliceBounds true len (if op then π.room b else c) (lo.map (SV.conc π)) (some (hi.conc π)) (some (mx.conc π))).run P w = .ok (l, hh, m) w := by
  cases lo with
  | none => simp only [loB, Option.some.injEq] at hlo; subst hlo; simp [Instr.sliceBounds, (g1 _).1, (g2 _).1]
  | some v =>
   have g := fun cd => jCG (P := P) (x := v) hlo (Nat.le_refl _) π cd w
   simp [Instr.sliceBounds, (g1 _).1, (g2 _).1, (g _).1]
 have e1 : (SV.sl b off len c op).conc π = .slice (some ⟨π.mu b, off, none⟩) len (if op then π.room b else c) := rfl
 have e2 : SV.conc π (.sl b (if m = l then off else off + l * z) (hh - l) (m - l) false) = .slice (some ⟨π.mu b, if m = l then off else off + l * z, none⟩) (hh - l) (m - l) := rfl
 rw [e1, e2]
 generalize (if op then π.room b else c) = C at hb
 generalize Option.map (SV.conc π) lo = LO at hb
 generalize SV.conc π hi = HI at hb
 generalize SV.conc π mx = MX at hb
 simp only [Instr.sliceAt, Sem.run_bind, run_underlying hu, Result.andThen_ok, Instr.slice, hb, zH hz, Sem.run_pure]
 split <;> simp [Addr.jCg]
theorem jFh {t : TypeId} {x : AV} {f : Nat} {s : AV} (h : jHq P t x f = some s) (π : Pi) (w : World) :
  (Instr.field t (x.conc π) f).run P w = .ok (s.conc π) w := by
 unfold jHq at h
 split at h
 ·
  rename_i fs cs hu
  split at h
  ·
   rename_i fd hf
   split at h
   ·
    rename_i z hz
    split at h
    ·
     rename_i ha
     rw [Option.map_eq_some_iff] at h
     obtain ⟨r, hr, rfl⟩ := h
     simp [AV.conc, SV.conc, Instr.field, run_underlying hu, hf, asAgg, part, jBj ha, hr]
    ·
     rename_i ha
     rw [Option.map_eq_some_iff] at h
     obtain ⟨r, hr, rfl⟩ := h
     have hc := (jAk hr).1
     simp [AV.conc, SV.conc, Instr.field, run_underlying hu, hf, asAgg, part, jBj ha, zH hz, hc, List.extract_eq_take_drop, List.map_take, List.map_drop]
    ·
     simp at h
   ·
    simp at h
  ·
   simp at h
 ·
  simp at h
theorem jBI {l : List SV} {b : List UInt8} (h : bytesOf l = some b) : ∀ π : Pi, l.map (SV.conc π) = b.map (fun x => Value.int .u8 x.toNat) := by
 induction l generalizing b with
 | nil => simp only [bytesOf, Option.some.injEq] at h; subst h; intro π; rfl
 | cons s t ih =>
  simp only [bytesOf] at h
  split at h
  ·
   rename_i x l0 hx hl
   simp only [Option.some.injEq] at h; subst h
   intro π
   rw [List.map_cons, List.map_cons, ih hl π]
   congr 1
   unfold byteOf at hx
   split at hx
   ·
    rename_i n
    split at hx
    ·
     rename_i hn
     simp only [Option.some.injEq] at hx; subst hx
     simp only [SV.conc]
     congr 1
     rw [UInt8.toNat_ofNat']
     omega
    ·
     simp at hx
   ·
    simp at hx
  ·
   simp at h
theorem foldl_push : ∀ (l : List UInt8) (s : ByteArray), (l.map (fun x => (x.toNat : Int))).foldl (fun r n => r.push (UInt8.ofNat n.toNat)) s = ⟨s.data ++ l.toArray⟩
 | [], s => by simp
 | x :: t, s => by
  rw [List.map_cons, List.foldl_cons, foldl_push t]
  apply ByteArray.ext
  simp [ByteArray.push]
theorem jGf (w : World) (c : Array Value) (e : TypeId) (n : Nat) : ((w.alloc (.cells c e)).freeze ⟨w.heap.size, n, none⟩ 1).heap = w.heap.push (.cells c e (n, n + 1)) := by
 unfold World.freeze
 rw [if_neg (by decide)]
 apply Array.ext_getElem?
 intro i
 simp only [Array.getElem?_modify]
 by_cases hi : w.heap.size = i
 ·
  subst hi
  rw [if_pos rfl, heap_alloc_new]
  simp
 ·
  rw [if_neg hi]
  show (w.heap.push (.cells c e))[i]? = _
  rw [Array.getElem?_push, Array.getElem?_push, if_neg (fun x => hi x.symm), if_neg (fun x => hi x.symm)]
theorem jGu {π : Pi} {st : AS} {w : World} (h : HRel π st w) {src dst : TypeId} {x s : SV} {st' : AS} (hs : jLn P st src dst x = some (s, st')) :
  ∃ π' w', (convert src dst (x.conc π)).run P w = .ok (s.conc π') w' ∧ HRel π' st' w' ∧ Tr π st w π' st' w' := by
 unfold jLn at hs
 split at hs
 ·
  rename_i s0
  unfold jLm at hs
  split at hs
  ·
   rename_i e he
   simp only [Bool.cond_eq_ite, Bool.and_eq_true, Nat.ble_eq] at hs
   split at hs
   ·
    rename_i hc
    obtain ⟨⟨hs1, hb1⟩, hsz⟩ := hc
    simp only [Option.some.injEq, Prod.mk.injEq] at hs
    obtain ⟨rfl, rfl⟩ := hs
    obtain ⟨e', hd, he'⟩ := jDs hb1
    have hu := zu he
    obtain rfl : e = e' := by rw [hu] at hd; simpa using hd
    have hsrc := jCD hs1
    let cap := grownCap w s0.size 0 e
    have hge : s0.size ≤ cap := grownCap_ge w s0.size 0 e
    let cells : Array Value := s0.data.map (fun b => Value.int .u8 b.toNat) ++ Array.replicate (cap - s0.size) (.int .u8 0)
    have hcs : cells.size = cap := by
     show (s0.data.map _ ++ Array.replicate _ _).size = cap
     rw [Array.size_append, Array.size_map, Array.size_replicate]
     have : s0.data.size = s0.size := rfl
     omega
    let w1 : World := (w.drew.alloc (.cells cells e)).freeze ⟨w.heap.size, cells.size, none⟩ 1
    have hheap : w1.heap = w.heap.push (.cells cells e (cells.size, cells.size + 1)) := by
     exact jGf w.drew cells e cells.size
    have hcl : cells = ((s0.data.toList.map fun (b : UInt8) => SV.int .u8 b.toNat).map (SV.conc π) ++ List.replicate (cap - s0.size) (Value.int .u8 0)).toArray := by
     apply Array.toList_inj.1
     simp [cells, SV.conc, Function.comp_def]
    obtain ⟨π', h1, h2, h3, h4⟩ := jFA (w' := w1) h (s0.data.toList.map fun (b : UInt8) => SV.int .u8 b.toNat) (by
      rw [List.all_map]; exact List.all_eq_true.2 fun _ _ => rfl) e true 1 true (cells.size, cells.size + 1) (fun x => by simp at x) (List.replicate (cap - s0.size) (Value.int .u8 0)) cap
     (by rw [hheap]; exact congrArg (fun x => w.heap.push (Obj.cells x e (cells.size, cells.size + 1))) hcl) rfl rfl rfl (fun x => by simp at x) (fun _ => by
      have : s0.data.toList.length = s0.size := by rw [Array.length_toList]; rfl
      rw [List.length_map, List.length_replicate, this]; omega)
    refine ⟨π', w1, ?_, h3, h4⟩
    have hcap : (Question.appendCap s0.size 0 e).cut (w.tape w.drawn (.appendCap s0.size 0 e)) = cap := rfl
    simp only [SV.conc, h1, h2, if_true]
    have hsh : (w.drew.alloc (.cells cells e)).shape? w.heap.size = some (e, cells.size) := by
     have := heap_alloc_new w.drew (.cells cells e)
     simp only [World.size_drew] at this
     unfold World.shape?; rw [this]
    have hrun : (Conv.stringToBytes e s0).run P w = .ok (.slice (some ⟨w.heap.size, 0, none⟩) s0.size cap) w1 := by
     simp only [Conv.stringToBytes, Sem.run_bind, run_choose, Question.forced, Bool.false_eq_true, if_false, hcap, Result.andThen_ok, newRow, World.drew_eq, Sem.run_pure, markStringish, run_shape]
     rw [show (newObj (.cells cells e)).run P w.drew = .ok w.heap.size (w.drew.alloc (.cells cells e)) from rfl]
     simp only [Result.andThen_ok, hsh]
     rfl
    simp [convert, run_underlying hsrc, run_underlying hu, run_underlying he', hrun]
   ·
    simp at hs
  ·
   simp at hs
 ·
  rename_i b off
  unfold jNj at hs
  split at hs
  ·
   rename_i k hk
   simp only [Bool.cond_eq_ite, Bool.and_eq_true, Nat.blt_eq, Bool.not_eq_true'] at hs
   split at hs
   ·
    rename_i hc
    obtain ⟨hop, hlt⟩ := hc
    obtain ⟨rest, fz, h2, -, h3, -⟩ := (h.blk b k hk).2.1
    obtain rfl := h3 hop
    have hsh : w.shape? (π.mu b) = some (k.elem, k.cells.length) := by simp [World.shape?, h2]
    have hno : decide (k.cells.length ≤ off) = false := decide_eq_false (by omega)
    split at hs
    ·
     rename_i u hu
     split at hs
     ·
      rename_i z hz
      split at hs
      ·
       rename_i hc2
       obtain ⟨hz1, hd⟩ := hc2
       simp only [Nat.ble_eq] at hz1
       have hz0 : z ≠ 0 := by omega
       simp only [Option.some.injEq, Prod.mk.injEq] at hs
       obtain ⟨rfl, rfl⟩ := hs
       refine ⟨π, w, ?_, h, Tr.refl h⟩
       simp [convert, SV.conc, run_underlying (jAE hu), run_underlying (jDr hd), Conv.unsafePointer, Conv.seenAt, viewAt, hsh, cellsIn, zH hz, hz0]
       omega
      ·
       simp at hs
     ·
      simp at hs
    ·
     split at hs
     ·
      rename_i u hu
      split at hs
      ·
       rename_i z hz
       split at hs
       ·
        rename_i hc2
        obtain ⟨⟨hz1, hsr⟩, hl⟩ := hc2
        simp only [Nat.ble_eq] at hz1
        have hz0 : z ≠ 0 := by omega
        simp only [Option.some.injEq, Prod.mk.injEq] at hs
        obtain ⟨rfl, rfl⟩ := hs
        refine ⟨π, w, ?_, h, Tr.refl h⟩
        simp [convert, SV.conc, run_underlying (jAE hu), run_underlying (jDr hsr), Conv.unsafePointer, Conv.seenAt, viewAt, hsh, variablesAt, zH hz, hz0, hl]
       ·
        simp at hs
      ·
       simp at hs
     ·
      simp at hs
   ·
    simp at hs
  ·
   simp at hs
 ·
  rename_i b off n c op
  unfold jLo at hs
  simp only [Bool.cond_eq_ite, Bool.and_eq_true] at hs
  split at hs
  ·
   rename_i hc
   split at hs
   ·
    rename_i n' l hrow
    split at hs
    ·
     rename_i bs hbs
     simp only [Option.some.injEq, Prod.mk.injEq] at hs
     obtain ⟨rfl, rfl⟩ := hs
     obtain ⟨e, hu, he⟩ := jDs hc.1
     have hd := jCD hc.2
     obtain ⟨a, c', hx, hl, hcell, -⟩ := jBz h hrow
     refine ⟨π, w, ?_, h, Tr.refl h⟩
     have hload : (loadCells a n').run P w = .ok ((bs.map fun x => (x.toNat : Int)).map (Value.int .u8)).toArray w := by
      have := run_loadCells_list (P := P) w a (l.map (SV.conc π)) hcell
      rw [List.length_map, hl, Nat.mul_one] at this
      rw [this, jBI hbs π, List.map_map]; rfl
     have := run_bytesToString w a n' c' _ hload
     rw [foldl_push] at this
     rw [hx]
     simp [convert, run_underlying hu, run_underlying hd, run_underlying he, this, SV.conc]
    ·
     simp at hs
   ·
    simp at hs
  ·
   simp at hs
 ·
  simp at hs
end Go.Ev
namespace Go.Ev
open Go.Lib
variable {P : Program}
theorem jFS (A : Array Value) (z : List SV) (π : Pi) (s : Nat) (hA : A = (z.map (SV.conc π)).toArray) (hs : z.length = s) (n : Nat) :
  madeCells A (n * s) = ((qC z n).map (SV.conc π)).toArray := by
 have hsz : A.size = s := by rw [hA]; simp [hs]
 have := jDh A (z.map (SV.conc π)) (by rw [hA]) s (by simp [hs]) n
 rw [jAP, ← this]
 apply Array.toList_inj.1
 simp [madeCells, hsz]
theorem jHn {π : Pi} {st : AS} {w : World} (h : HRel π st w) {t : TypeId} {l c s : SV} {st' : AS} (hs : jOs P st t l c = some (s, st')) :
  ∃ π' w', (Instr.makeSlice t (l.conc π) (c.conc π)).run P w = .ok (s.conc π') w' ∧ HRel π' st' w' ∧ Tr π st w π' st' w' := by
 unfold jOs at hs
 split at hs
 rotate_left
 ·
  simp at hs
 rename_i e he
 have hu := zu he
 split at hs
 rotate_left
 ·
  simp at hs
 rename_i k n k' m
 split at hs
 rotate_left
 ·
  simp at hs
 rename_i i z hi hzc
 simp only [Bool.cond_eq_ite, Bool.and_eq_true, Nat.beq_eq, Nat.ble_eq, decide_eq_true_eq] at hs
 split at hs
 rotate_left
 ·
  simp at hs
 rename_i hc
 obtain ⟨⟨⟨⟨hz, hby⟩, hm⟩, hn0⟩, hnm⟩ := hc
 simp only [Option.some.injEq, Prod.mk.injEq] at hs
 obtain ⟨rfl, rfl⟩ := hs
 obtain ⟨i', zv, hi', hzv, hzq⟩ := zM hzc
 obtain rfl : i = i' := Option.some.inj (hi.symm.trans hi')
 have hbm : (i.bytes : Int) * m ≤ 281474976710656 := by
  have : (i.bytes : Int) * m ≤ 1000000 * 1000000 := Int.mul_le_mul (by omega) (by omega) (by omega) (by omega)
  omega
 have hrun := run_make (P := P) w t e i zv hu hi hzv k k' n m hn0 hnm hbm (by omega)
 obtain ⟨π', h1, h2, h3, h4⟩ := qw (w' := w.alloc (.cells (madeCells zv.cells (m.toNat * i.size)) e)) h (qC z m.toNat) (jBX ((hzq π).2 _) _) e false i.size [] 0 (by
  rw [jFS zv.cells z π i.size (hzq π).1 hz, List.append_nil]; rfl) rfl rfl rfl (fun _ => rfl) (fun x => by simp at x)
 refine ⟨π', _, ?_, h3, h4⟩
 simp only [SV.conc, h1, Bool.false_eq_true, if_false]
 exact hrun
theorem strCells_eq (s : ByteArray) (π : Pi) : strCells s = (s.data.toList.map fun (b : UInt8) => SV.int .u8 b.toNat).map (SV.conc π) := by
 rw [strCells, List.map_map]; rfl
theorem jFc (s : ByteArray) (p : Nat → Bool) : (s.data.toList.map fun (b : UInt8) => SV.int .u8 b.toNat).all (SV.all p) = true := by
 rw [List.all_map]; exact List.all_eq_true.2 fun _ _ => rfl
theorem byteCells_length (s : ByteArray) : (s.data.toList.map fun (b : UInt8) => SV.int .u8 b.toNat).length = s.size := by
 rw [List.length_map, Array.length_toList]; rfl
theorem jEX {π : Pi} {st : AS} {w : World} (h : HRel π st w) {t u ty : TypeId} (hus : P.underlying u = some .string) {s : SV} {x : ByteArray} {r : SV} {st' : AS} (hs : jFk P st t s x = some (r, st')) :
  ∃ π' w', (Builtin.append_ #[t, u] ty #[s.conc π, .string x]).run P w = .ok (r.conc π') w' ∧ HRel π' st' w' ∧ Tr π st w π' st' w' := by
 unfold jFk at hs
 split at hs
 rotate_left
 ·
  simp at hs
 rename_i e he
 have hu := zu he
 split at hs
 rotate_left
 ·
  simp at hs
 rename_i i zc hi hzc
 obtain ⟨i', zv, hi', hzv, hzq⟩ := zM hzc
 obtain rfl : i = i' := Option.some.inj (hi.symm.trans hi')
 simp only [Bool.cond_eq_ite, Bool.and_eq_true, Nat.beq_eq, Nat.ble_eq, Bool.not_eq_true'] at hs
 split at hs
 rotate_left
 ·
  simp at hs
 rename_i hcond
 obtain ⟨⟨⟨hzl, hz1⟩, hby⟩, hn6⟩ := hcond
 have hzs : zv.cells.size = 1 := by rw [(hzq π).1]; simp [hzl]
 have hrl : ∀ m, (Builtin.zeroCells zv.cells m).toList.length = m := fun m => by rw [Array.length_toList, size_zeroCells, hzs, Nat.mul_one]
 have hnl := byteCells_length x
 have hnall := jFc x (below st.next)
 have hsc := strCells_eq x π
 have hscl : (strCells x).length = x.size := strCells_length x
 split at hs
 ·
  split at hs
  ·
   simp at hs
  ·
   rename_i hn0
   simp only [Option.some.injEq, Prod.mk.injEq] at hs
   obtain ⟨rfl, rfl⟩ := hs
   have hrun := run_append_nil_string (P := P) w t u ty e i zv hu hus hi hzv x (by omega) (by omega) (by
    have : x.size * i.bytes ≤ 1000000 * 1000000 := Nat.mul_le_mul hn6 hby
    omega)
   have hge := grownCap_ge w x.size 0 e
   obtain ⟨π', h1, h2, h3, h4⟩ := qw (w' := w.drew.alloc (.cells (x.data.map (fun b => Value.int .u8 b.toNat) ++ Builtin.zeroCells zv.cells (grownCap w x.size 0 e - x.size)) e)) h
    (x.data.toList.map fun (b : UInt8) => SV.int .u8 b.toNat) hnall e true 1
    (Builtin.zeroCells zv.cells (grownCap w x.size 0 e - x.size)).toList (grownCap w x.size 0 e) (by
     show w.heap.push _ = _
     congr 2
     apply Array.toList_inj.1; simp [SV.conc, Function.comp_def]) rfl rfl rfl (fun x => by simp at x) (fun _ => by
     rw [hrl, hnl]; omega)
   refine ⟨π', _, ?_, h3, h4⟩
   simp only [SV.conc, h1, h2, if_true]
   exact hrun
 ·
  rename_i b off len c
  split at hs
  rotate_left
  ·
   simp at hs
  rename_i k hk
  obtain ⟨hbn, hb, hall⟩ := h.blk b k hk
  split at hs
  rotate_left
  ·
   simp at hs
  rename_i hcc
  obtain ⟨⟨⟨⟨⟨⟨⟨rfl, rfl⟩, hko⟩, hro⟩, hkz⟩, hkl⟩, hlen⟩, hel⟩ := hcc
  simp only [Option.some.injEq, Prod.mk.injEq] at hs
  obtain ⟨rfl, rfl⟩ := hs
  subst hel
  obtain ⟨rest, fz, h2, hfz, -, h3⟩ := id hb
  obtain rfl := hfz hro
  have hcl := h3 hko
  rw [hkz, Nat.mul_one] at hcl
  by_cases hfit : len + x.size ≤ π.room b
  ·
   have hrun := run_append_room_string (P := P) w t u ty k.elem i hu hus hi hz1 (π.mu b) len (π.room b) _ h2 x hfit (by simp; omega)
   obtain ⟨π', p1, p2, p3, p4⟩ := jIV (w' := w.setRow (π.mu b) ((k.cells ++ x.data.toList.map fun (b : UInt8) => SV.int .u8 b.toNat).map (SV.conc π) ++ rest.drop x.size).toArray) h hk (x.data.toList.map fun (b : UInt8) => SV.int .u8 b.toNat) hnall (rest.drop x.size) ⟨_, h2⟩
    (by rw [List.length_drop, hkz, hnl]; omega) rfl
   rw [hkz] at p3 p4
   refine ⟨π', _, ?_, p3, p4⟩
   simp only [SV.conc, if_true, p1, p2]
   rw [hrun]
   congr 2
   have e1 : (List.map (SV.conc π) k.cells ++ rest).take len = List.map (SV.conc π) k.cells := by
    rw [hkl, ← List.length_map (f := SV.conc π), List.take_left']; rfl
   have e2 : (List.map (SV.conc π) k.cells ++ rest).drop (len + x.size) = rest.drop x.size := by
    rw [hkl, ← (List.length_map (SV.conc π) : (k.cells.map (SV.conc π)).length = k.cells.length), List.drop_append, List.drop_of_length_le (by omega)]
    simp
   simp only [e1, e2, List.map_append, List.append_assoc, hsc]
  ·
   have hcap : Builtin.nextslicecap (len + x.size) (π.room b) * i.bytes ≤ 281474976710656 := growslice_fits (by omega) (by
    have : (len + x.size) * i.bytes ≤ 2000000 * 1000000 := Nat.mul_le_mul (by omega) hby
    omega)
   have hold : cut k.cells 0 (len * 1) = some k.cells := by
    simp only [cut, jAI, List.drop_zero, Nat.mul_one, hkl]
    simp
   have hrun := run_append_grow_string (P := P) w t u ty k.elem i zv hu hus hi hzv ⟨π.mu b, 0, none⟩ len (π.room b) (k.cells.map (SV.conc π)) (by rw [List.length_map, hz1, Nat.mul_one, hkl]) (hb.jCs hold) x (by omega) (by omega) hcap
   have hge := grownCap_ge w (len + x.size) (π.room b) k.elem
   obtain ⟨π', h1, h2', h3', h4⟩ := qw (w' := w.drew.alloc (.cells ((k.cells.map (SV.conc π)).toArray ++ (strCells x).toArray ++ Builtin.zeroCells zv.cells (grownCap w (len + x.size) (π.room b) k.elem - (len + x.size))) k.elem)) h
    (k.cells ++ x.data.toList.map fun (b : UInt8) => SV.int .u8 b.toNat) (by rw [List.all_append, hall, hnall]; rfl) k.elem true 1
    (Builtin.zeroCells zv.cells (grownCap w (len + x.size) (π.room b) k.elem - (len + x.size))).toList (grownCap w (len + x.size) (π.room b) k.elem) (by
     show w.heap.push _ = _
     congr 2
     rw [hsc]
     apply Array.toList_inj.1; simp) rfl rfl rfl (fun x => by simp at x) (fun _ => by
     rw [hrl, List.length_append, hnl]; omega)
   have hsub : ∀ c k', hget ((st.next, ⟨k.cells ++ x.data.toList.map fun (b : UInt8) => SV.int .u8 b.toNat, k.elem, true, 1, false⟩) :: hdel b st.heap) c = some k' →
     hget (jAf st (k.cells ++ x.data.toList.map fun (b : UInt8) => SV.int .u8 b.toNat) k.elem true 1).heap c = some k' := fun c k' hc => by
    rw [jAf, jm]
    rw [jm, jAu] at hc
    split at hc
    ·
     rename_i ee; rw [if_pos ee]; exact hc
    ·
     rename_i ee
     rw [if_neg ee]
     split at hc
     ·
      simp at hc
     ·
      exact hc
   refine ⟨π', _, ?_, h3'.sub hsub (Nat.le_refl _), h4.drop _ _ hsub (fun c hc => zh.2 (.inr hc)) ?_⟩
   ·
    simp only [SV.conc, h1, h2', if_true]
    exact hrun
   ·
    intro c hc hn
    have hne : st.next ≠ c := by omega
    have hbc : b ≠ c := fun e => hn (zh.2 (.inl e.symm))
    simp only [jAf, jm, jAu, if_neg hne, if_neg hbc]
 ·
  simp at hs
theorem jEU {π : Pi} {st : AS} {w : World} (h : HRel π st w) {pt it ty : TypeId} {p l s : SV} {st' : AS} (hs : jFd P st pt p l = some (s, st')) :
  ∃ w', (Builtin.unsafeString_ #[pt, it] ty #[p.conc π, l.conc π]).run P w = .ok (s.conc π) w' ∧ HRel π st' w' ∧ Tr π st w π st' w' := by
 unfold jFd at hs
 split at hs
 rotate_left
 ·
  simp at hs
 rename_i b off n
 split at hs
 rotate_left
 ·
  simp at hs
 rename_i k hk
 split at hs
 rotate_left
 ·
  simp at hs
 rename_i r hr
 split at hs
 rotate_left
 ·
  simp at hs
 rename_i bs hbs
 simp only [Bool.cond_eq_ite, Bool.and_eq_true, Nat.beq_eq, Nat.ble_eq, Bool.not_eq_true', decide_eq_true_eq] at hs
 split at hs
 rotate_left
 ·
  simp at hs
 rename_i hc
 obtain ⟨⟨⟨⟨⟨hn1, hn6⟩, rfl⟩, hro⟩, hpt⟩, hc1⟩ := hc
 simp only [Option.some.injEq, Prod.mk.injEq] at hs
 obtain ⟨rfl, rfl⟩ := hs
 have hp : P.underlying pt = some (.pointer k.elem) := by
  unfold jQZ at hpt
  split at hpt
  ·
   rename_i e he
   have := jAE he
   rw [Nat.beq_eq] at hpt
   rw [← hpt]; exact this
  ·
   simp at hpt
 obtain ⟨-, hb, hall⟩ := h.blk b k hk
 obtain ⟨rest, fz, h2, hfz, h3, h4⟩ := id hb
 obtain rfl := hfz hro
 have hcut := jAk hr
 have hbl : bs.length = n.toNat := by
  have := congrArg List.length (jBI hbs π)
  simp only [List.length_map] at this
  rw [← this, hcut.2]
 have hrl : n.toNat ≤ k.cells.length := by
  have h5 := hcut.2
  rw [hcut.1, List.length_take, List.length_drop] at h5
  omega
 have hsh : w.shape? (π.mu b) = some (k.elem, (k.cells.map (SV.conc π) ++ rest).toArray.size) := by unfold World.shape?; rw [h2]
 have hcell : ∀ j x, bs[j]? = some x → w.cell? ((⟨π.mu b, 0, none⟩ : Addr).add j) = some (.int .u8 x.toNat) := fun j x hx => by
  refine hb.jCs hr j _ ?_
  rw [jBI hbs π, List.getElem?_map, hx]; rfl
 have hne : bs ≠ [] := fun e => by rw [e] at hbl; simp at hbl; omega
 have hrun := run_unsafeString_row (P := P) w pt it ty k.elem hp hc1 (π.mu b) _ hsh bs hne (by rw [hbl]; simp; omega) (by omega) hcell
 have hnn : (bs.length : Int) = n := by rw [hbl]; omega
 rw [hnn] at hrun
 have hfr : (w.freeze ⟨π.mu b, 0, none⟩ bs.length).heap[π.mu b]? = some (.cells (k.cells.map (SV.conc π) ++ rest).toArray k.elem (0, bs.length)) := by
  unfold World.freeze
  rw [if_neg (by omega)]
  simp only [Array.getElem?_modify, if_true, h2]
  simp
 have hot : ∀ r, r ≠ π.mu b → (w.freeze ⟨π.mu b, 0, none⟩ bs.length).heap[r]? = w.heap[r]? := fun r hr => by
  unfold World.freeze
  rw [if_neg (by omega)]
  simp only [Array.getElem?_modify]
  rw [if_neg (fun e => hr e.symm)]
 have hup := jIy (k2 := { k with ro := true }) (w' := w.freeze ⟨π.mu b, 0, none⟩ bs.length) h hk hall ⟨rest, _, hfr, fun x => by simp at x, h3, h4⟩ hot
  (by unfold World.freeze; split <;> rfl) (by unfold World.freeze; split <;> rfl) (by unfold World.freeze; split <;> rfl) (by unfold World.freeze; split <;> simp)
 exact ⟨_, hrun, hup.1, hup.2⟩
end Go.Ev
namespace Go.Ev
variable {P : Program}
theorem AV.za (π : Pi) (s : SV) : AV.conc π (.sc s) = s.conc π := rfl
def jBe (P : Program) (call : FuncId → List AV → AS → Option (TV × AS)) : Prop :=
 ∀ f args st v st', call f args st = some (v, st') → ∀ π w, HRel π st w → args.all (AV.all (below st.next)) = true →
  ((∃ fn c, P.funcs[f]? = some fn ∧ fn.body = some c ∧ (fn.name == "runtime.NumGoroutine") = false) ∧
   Calls P f (args.map (AV.conc π)).toArray w fun e w' => ∃ π', e = .returned (v.conc π') ∧ HRel π' st' w' ∧ Tr π st w π' st' w') ∨
  ∃ π' w', (callFunc f (args.map (AV.conc π)).toArray).run P w = .ok (.value (v.conc π')) w' ∧ HRel π' st' w' ∧ Tr π st w π' st' w'
theorem jEY {o : Oper} {a : Act} {π : Pi} {st : AS} {w : World} {v : TV} {st' : AS} (h : Does P (execOp a.eval o) π st w v st') {K : Act → World → Prop} {Q : Exit → Act → World → Prop}
  (hK : ∀ π' w', HRel π' st' w' → Tr π st w π' st' w' → K (a.put o.dst (v.conc π')) w') : o.wp P a w K Q := by
 obtain ⟨π', w', hr | ⟨hr, rfl⟩, h1, h2⟩ := h
 ·
  unfold Oper.wp; rw [hr]; exact hK π' w' h1 h2
 ·
  unfold Oper.wp; rw [hr]; exact hK π' w' h1 h2
theorem jAQ {st st' : AS} {x : Option SV} {v : TV} (h : gV st x = some (v, st')) : ∃ s, x = some s ∧ v = .av (.sc s) ∧ st' = st := by
 unfold gV at h
 rw [Option.map_eq_some_iff] at h
 obtain ⟨s, hs, he⟩ := h
 simp only [Prod.mk.injEq] at he
 exact ⟨s, hs, he.1.symm, he.2.symm⟩
theorem jFW {st st' : AS} {x : Option AV} {v : TV} (h : gU st x = some (v, st')) : ∃ s, x = some s ∧ v = .av s ∧ st' = st := by
 unfold gU at h
 rw [Option.map_eq_some_iff] at h
 obtain ⟨s, hs, he⟩ := h
 simp only [Prod.mk.injEq] at he
 exact ⟨s, hs, he.1.symm, he.2.symm⟩
theorem jCE {st' : AS} {x : Option (SV × AS)} {v : TV} (h : gN x = some (v, st')) : ∃ s, x = some (s, st') ∧ v = .av (.sc s) := by
 unfold gN at h
 rw [Option.map_eq_some_iff] at h
 obtain ⟨⟨s, st1⟩, hs, he⟩ := h
 simp only [Prod.mk.injEq] at he
 exact ⟨s, by rw [hs, he.2], he.1.symm⟩
section
variable {call : FuncId → List AV → AS → Option (TV × AS)} {π : Pi} {st st' : AS} {w : World} {T : Tm} {a : Act} {v : TV}
 (h : HRel π st w) (hT : TRel π st.next T a.tmps)
include hT
theorem jGK {l : List Operand} {r : List (Nat × Nat)} (hs : jGL T l = some r) : l.map a.eval = r.map (fun q => .pointer (some ⟨π.mu q.1, q.2, none⟩)) := by
 induction l generalizing r with
 | nil => simp only [jGL, Option.some.injEq] at hs; subst hs; rfl
 | cons x t ih =>
  simp only [jGL] at hs
  split at hs
  ·
   rename_i b off l0 h0 h1
   simp only [Option.some.injEq] at hs; subst hs
   rw [List.map_cons, List.map_cons, ih h1, (ji hT h0).1]; rfl
  ·
   simp at hs
theorem jEl {x : Option Operand} {r : Option SV} (hs : optS T x = some r) : x.map a.eval = r.map (SV.conc π) := by
 cases x with
 | none => simp only [optS, Option.some.injEq] at hs; subst hs; rfl
 | some y =>
  simp only [optS, Option.map_eq_some_iff] at hs
  obtain ⟨s, hs, rfl⟩ := hs
  simp [(ji hT hs).1]
include h
variable (dst : Option Tmp) (type : TypeId) (pos : String) (after : Array Edge) (guard : Option (Nat × Bool))
theorem jBh {x : Operand} (hs : jJH T st x = some (v, st')) : a.eval x = v.conc π ∧ st' = st := by
 have _h := h
 unfold jJH at hs
 rw [Option.map_eq_some_iff] at hs
 obtain ⟨y, hy, he⟩ := hs
 simp only [Prod.mk.injEq] at he; obtain ⟨rfl, rfl⟩ := he
 exact ⟨(jCj hT hy).1, rfl⟩
theorem jOI {op : Op} (hs : aop P call T op st = some (v, st')) (hc : ∀ c, op = .call c → ∃ b, c.callee = .builtin b) :
  Does P (execOp a.eval ⟨dst, op, type, pos, after, guard⟩) π st w v st' := by
 cases op <;> simp only [aop, reduceCtorEq] at hs
 case move x => obtain ⟨e, rfl⟩ := jBh h hT hs; exact Does.same h (by simp [execOp, e])
 case assign x => obtain ⟨e, rfl⟩ := jBh h hT hs; exact Does.same h (by simp [execOp, e])
 case pick c x y =>
  unfold jPj at hs
  split at hs
  ·
   rename_i hcc
   obtain ⟨e, rfl⟩ := jBh h hT hs
   exact Does.same h (by simp [execOp, (ji hT hcc).1, SV.conc, asBool, e])
  ·
   rename_i hcc
   obtain ⟨e, rfl⟩ := jBh h hT hs
   exact Does.same h (by simp [execOp, (ji hT hcc).1, SV.conc, asBool, e])
  ·
   simp at hs
 case alloc e =>
  obtain ⟨s, hy, rfl⟩ := jCE hs
  obtain ⟨π', w', h1, h2, h3⟩ := jGw h hy
  exact ⟨π', w', .inl (by simp [execOp, h1, TV.conc, AV.za]), h2, h3⟩
 case box e x =>
  unfold oBox at hs
  rw [Option.map_eq_some_iff] at hs
  obtain ⟨y, hy, he⟩ := hs
  simp only [Prod.mk.injEq] at he; obtain ⟨rfl, rfl⟩ := he
  obtain ⟨g1, g2⟩ := jAA hT hy
  obtain ⟨π', w', h1, h2, h3⟩ := jJg (P := P) h e g2
  exact ⟨π', w', .inl (by simp [execOp, g1, h1, TV.conc, AV.za]), h2, h3⟩
 case build t ps =>
  unfold jNV at hs
  rw [Option.bind_eq_some_iff] at hs
  obtain ⟨l, hl, hs⟩ := hs
  obtain ⟨r, hr, rfl, rfl⟩ := jFW hs
  obtain ⟨g1, g2⟩ := jCU hT hl
  have g := jGv hr π w
  refine Does.same h ?_
  have e1 : ps.map (fun (i, x) => (i, a.eval x)) = (l.map fun q => (q.1, q.2.conc π)).toArray := by
   apply Array.toList_inj.1
   rw [Array.toList_map]; exact g1
  simp only [execOp, e1, Sem.run_bind, g.1, Result.andThen_ok, Sem.run_pure, TV.conc]
 case buildSlice t len ps =>
  unfold jIS at hs
  rw [Option.bind_eq_some_iff] at hs
  obtain ⟨l, hl, hs⟩ := hs
  obtain ⟨r, hr, rfl⟩ := jCE hs
  obtain ⟨g1, g2⟩ := jCU hT hl
  obtain ⟨π', w', h1, h2, h3⟩ := jEW h g2 hr
  refine ⟨π', w', .inl ?_, h2, h3⟩
  have e1 : ps.map (fun (i, x) => (i, a.eval x)) = (l.map fun q => (q.1, q.2.conc π)).toArray := by
   apply Array.toList_inj.1
   rw [Array.toList_map]; exact g1
  simp only [execOp, e1, Sem.run_bind, h1, Result.andThen_ok, Sem.run_pure, TV.conc, AV.za]
 case load t x =>
  unfold jPl at hs
  rw [Option.bind_eq_some_iff] at hs
  obtain ⟨s, hx, hs⟩ := hs
  rw [Option.map_eq_some_iff] at hs
  obtain ⟨r, hr, he⟩ := hs
  simp only [Prod.mk.injEq] at he; obtain ⟨rfl, rfl⟩ := he
  exact Does.same h (by simp [execOp, (ji hT hx).1, (jEG h hr).1])
 case store t x y =>
  unfold jNR at hs
  rw [Option.bind_eq_some_iff] at hs
  obtain ⟨s, hx, hs⟩ := hs
  rw [Option.bind_eq_some_iff] at hs
  obtain ⟨u, hy, hs⟩ := hs
  rw [Option.map_eq_some_iff] at hs
  obtain ⟨r, hr, he⟩ := hs
  simp only [Prod.mk.injEq] at he; obtain ⟨rfl, rfl⟩ := he
  obtain ⟨g1, g2⟩ := jAA hT hy
  obtain ⟨w', h1, h2, h3⟩ := jGm h g2 hr
  exact ⟨π, w', .inr ⟨by simp [execOp, (ji hT hx).1, g1, h1], rfl⟩, h2, h3⟩
 case nilCheck x =>
  unfold oNil at hs
  split at hs
  ·
   rename_i b off hx
   simp only [Option.some.injEq, Prod.mk.injEq] at hs; obtain ⟨rfl, rfl⟩ := hs
   exact Does.same h (by simp [execOp, (ji hT hx).1, TV.conc, AV.za, SV.conc])
  ·
   simp at hs
 case binOp op t x y t' =>
  unfold oBin at hs
  rw [Option.bind_eq_some_iff] at hs
  obtain ⟨s, hx, hs⟩ := hs
  rw [Option.bind_eq_some_iff] at hs
  obtain ⟨u, hy, hs⟩ := hs
  obtain ⟨r, hr, rfl, rfl⟩ := jAQ hs
  have g := jJh hr x y π w
  refine Does.same h ?_
  simp only [execOp, (jAA hT hx).1, (jAA hT hy).1]
  rw [Sem.run_bind, g]; rfl
 case unOp op t x =>
  unfold oUn at hs
  rw [Option.bind_eq_some_iff] at hs
  obtain ⟨s, hx, hs⟩ := hs
  obtain ⟨r, hr, rfl, rfl⟩ := jAQ hs
  exact Does.same h (by simp [execOp, (ji hT hx).1, jLZ hr, TV.conc, AV.za])
 case convert s d x =>
  unfold jPo at hs
  rw [Option.bind_eq_some_iff] at hs
  obtain ⟨y, hx, hs⟩ := hs
  split at hs
  ·
   rename_i r hr
   obtain ⟨r', hr', rfl, rfl⟩ := jAQ hs
   simp only [Option.some.injEq] at hr'; subst hr'
   exact Does.same h (by simp [execOp, (ji hT hx).1, jHs hr, TV.conc, AV.za])
  ·
   obtain ⟨r, hr, rfl⟩ := jCE hs
   obtain ⟨π', w', h1, h2, h3⟩ := jGu h hr
   exact ⟨π', w', .inl (by simp [execOp, (ji hT hx).1, h1, TV.conc, AV.za]), h2, h3⟩
 case makeFunc fn first caps =>
  unfold jPm at hs
  split at hs
  ·
   rename_i f
   simp only [Bool.cond_eq_ite, Nat.beq_eq] at hs
   split at hs
   ·
    rename_i h0
    rw [Option.map_eq_some_iff] at hs
    obtain ⟨l, hl, he⟩ := hs
    simp only [Prod.mk.injEq] at he; obtain ⟨rfl, rfl⟩ := he
    have e0 : first = #[] := Array.size_eq_zero_iff.1 h0
    subst e0
    refine Does.same h ?_
    have e1 : caps.map a.eval = (l.map fun q => Value.pointer (some ⟨π.mu q.1, q.2, none⟩)).toArray := by
     apply Array.toList_inj.1
     rw [Array.toList_map]; exact jGK hT hl
    simp [execOp, Instr.makeFunc, e1, TV.conc, AV.za, SV.conc]
   ·
    simp at hs
  ·
   simp at hs
 case makeSlice t l c =>
  unfold jPk at hs
  rw [Option.bind_eq_some_iff] at hs
  obtain ⟨s, hx, hs⟩ := hs
  rw [Option.bind_eq_some_iff] at hs
  obtain ⟨u, hy, hs⟩ := hs
  obtain ⟨r, hr, rfl⟩ := jCE hs
  obtain ⟨π', w', h1, h2, h3⟩ := jHn h hr
  exact ⟨π', w', .inl (by simp [execOp, (ji hT hx).1, (ji hT hy).1, h1, TV.conc, AV.za]), h2, h3⟩
 case field t x f =>
  unfold jNU at hs
  rw [Option.bind_eq_some_iff] at hs
  obtain ⟨s, hx, hs⟩ := hs
  obtain ⟨r, hr, rfl, rfl⟩ := jFW hs
  exact Does.same h (by simp [execOp, (jAA hT hx).1, jFh hr, TV.conc])
 case slice t x lo hi mx =>
  unfold jNS at hs
  rw [Option.bind_eq_some_iff] at hs
  obtain ⟨s, hx, hs⟩ := hs
  rw [Option.bind_eq_some_iff] at hs
  obtain ⟨lo', hlo, hs⟩ := hs
  rw [Option.bind_eq_some_iff] at hs
  obtain ⟨hi', hhi, hs⟩ := hs
  have elo := jEl hT hlo
  have ehi := jEl hT hhi
  split at hs
  ·
   split at hs
   ·
    rename_i r hr
    obtain ⟨r', hr', rfl, rfl⟩ := jAQ hs
    simp only [Option.some.injEq] at hr'; subst hr'
    refine Does.same h ?_
    simp only [execOp, (ji hT hx).1, elo, ehi, Option.map_none, Sem.run_bind, jGn h hr, Result.andThen_ok, Sem.run_pure, TV.conc, AV.za]
   ·
    split at hs
    ·
     obtain ⟨r, hr, rfl, rfl⟩ := jAQ hs
     refine Does.same h ?_
     simp only [execOp, (ji hT hx).1, elo, ehi, Option.map_none, Sem.run_bind, jFe hr π w, Result.andThen_ok, Sem.run_pure, TV.conc, AV.za]
    ·
     simp at hs
  ·
   rename_i m
   rw [Option.bind_eq_some_iff] at hs
   obtain ⟨mx', hmx, hs⟩ := hs
   split at hs
   ·
    rename_i hh
    obtain ⟨r, hr, rfl, rfl⟩ := jAQ hs
    refine Does.same h ?_
    simp only [execOp, (ji hT hx).1, (ji hT hmx).1, elo, ehi, Option.map_some, Sem.run_bind, jFf h hr, Result.andThen_ok, Sem.run_pure, TV.conc, AV.za]
   ·
    simp at hs
 case fieldAddr t x f =>
  unfold jKa at hs
  rw [Option.bind_eq_some_iff] at hs
  obtain ⟨s, hx, hs⟩ := hs
  obtain ⟨r, hr, rfl, rfl⟩ := jAQ hs
  exact Does.same h (by simp [execOp, (ji hT hx).1, jGt hr, TV.conc, AV.za])
 case indexAddr t x i =>
  unfold jKZ at hs
  rw [Option.bind_eq_some_iff] at hs
  obtain ⟨s, hx, hs⟩ := hs
  rw [Option.bind_eq_some_iff] at hs
  obtain ⟨u, hy, hs⟩ := hs
  obtain ⟨r, hr, rfl, rfl⟩ := jAQ hs
  exact Does.same h (by simp [execOp, (ji hT hx).1, (ji hT hy).1, jFg hr, TV.conc, AV.za])
 case index t x i =>
  unfold jNT at hs
  rw [Option.bind_eq_some_iff] at hs
  obtain ⟨s, hx, hs⟩ := hs
  rw [Option.bind_eq_some_iff] at hs
  obtain ⟨u, hy, hs⟩ := hs
  obtain ⟨r, hr, rfl, rfl⟩ := jFW hs
  exact Does.same h (by simp [execOp, (jAA hT hx).1, (ji hT hy).1, jGs hr, TV.conc])
 case extract x i =>
  unfold jIQ at hs
  split at hs
  ·
   rename_i l hx
   obtain ⟨r, hr, rfl, rfl⟩ := jFW hs
   exact Does.same h (by simp [execOp, (jCj hT hx).1, TV.conc, Instr.extract, hr])
  ·
   simp at hs
 case call c =>
  obtain ⟨b, hb⟩ := hc c rfl
  obtain ⟨callee, args, argTypes⟩ := c
  simp only at hb; subst hb
  simp only [jKb] at hs
  have eA : ∀ {l : List Operand}, args.toList = l → args = l.toArray := fun e => by apply Array.toList_inj.1; simpa using e
  have eT : ∀ {l : List TypeId}, argTypes.toList = l → argTypes = l.toArray := fun e => by apply Array.toList_inj.1; simpa using e
  unfold jIR at hs
  split at hs
  ·
   unfold oLen at hs
   split at hs
   ·
    rename_i t more x hat ha
    rw [Option.bind_eq_some_iff] at hs
    obtain ⟨s, hx, hs⟩ := hs
    obtain ⟨r, hr, rfl, rfl⟩ := jAQ hs
    obtain rfl := eT hat
    obtain rfl := eA ha
    refine Does.same h ?_
    have := jJe hr type more π w
    simp only [execOp, resolve, invoke, builtin, Sem.run_bind, Sem.run_pure, Result.andThen_ok, List.map_toArray, List.map_cons, List.map_nil, (jAA hT hx).1, this, TV.conc, AV.za]
   ·
    simp at hs
  ·
   unfold jKc at hs
   split at hs
   ·
    rename_i t t' s0 x0 hat ha
    rw [Option.bind_eq_some_iff] at hs
    obtain ⟨s, hx, hs⟩ := hs
    rw [Option.bind_eq_some_iff] at hs
    obtain ⟨y, hy, hs⟩ := hs
    obtain rfl := eT hat
    obtain rfl := eA ha
    split at hs
    ·
     rename_i y
     simp only [Bool.cond_eq_ite] at hs
     split at hs
     ·
      rename_i hst
      obtain ⟨r, hr, rfl⟩ := jCE hs
      obtain ⟨π', w', h1, h2, h3⟩ := jEX (P := P) (ty := type) h (jCD hst) hr
      refine ⟨π', w', .inl ?_, h2, h3⟩
      have ey : a.eval x0 = .string y := (ji hT hy).1
      simp only [execOp, resolve, invoke, builtin, Sem.run_bind, Sem.run_pure, Result.andThen_ok, List.map_toArray, List.map_cons, List.map_nil, (ji hT hx).1, ey, h1, TV.conc, AV.za]
     ·
      simp at hs
    ·
     simp only [jAI] at hs
     split at hs
     ·
      rename_i htt
      subst htt
      obtain ⟨r, hr, rfl⟩ := jCE hs
      obtain ⟨π', w', h1, h2, h3⟩ := jFj (P := P) (ty := type) h hr
      refine ⟨π', w', .inl ?_, h2, h3⟩
      simp only [execOp, resolve, invoke, builtin, Sem.run_bind, Sem.run_pure, Result.andThen_ok, List.map_toArray, List.map_cons, List.map_nil, (ji hT hx).1, (ji hT hy).1, h1, TV.conc, AV.za]
     ·
      simp at hs
   ·
    simp at hs
  ·
   unfold oMax at hs
   split at hs
   ·
    rename_i x y ha
    split at hs
    ·
     rename_i k1 a1 k2 b1 hx hy
     obtain ⟨r, hr, rfl, rfl⟩ := jAQ hs
     simp only [Option.some.injEq] at hr; subst hr
     obtain rfl := eA ha
     exact Does.same h (by simp [execOp, resolve, invoke, builtin, (ji hT hx).1, (ji hT hy).1, SV.conc, TV.conc, AV.za, Builtin.max_, Builtin.max2])
    ·
     simp at hs
   ·
    simp at hs
  ·
   unfold oMax at hs
   split at hs
   ·
    rename_i x y ha
    split at hs
    ·
     rename_i k1 a1 k2 b1 hx hy
     obtain ⟨r, hr, rfl, rfl⟩ := jAQ hs
     simp only [Option.some.injEq] at hr; subst hr
     obtain rfl := eA ha
     exact Does.same h (by simp [execOp, resolve, invoke, builtin, (ji hT hx).1, (ji hT hy).1, SV.conc, TV.conc, AV.za, Builtin.min_, Builtin.min2])
    ·
     simp at hs
   ·
    simp at hs
  ·
   unfold jPn at hs
   split at hs
   ·
    rename_i x ha
    split at hs
    ·
     rename_i b off len c hx
     split at hs
     ·
      rename_i k hk
      simp only [Bool.cond_eq_ite, Bool.and_eq_true, Nat.beq_eq, Nat.ble_eq] at hs
      split at hs
      ·
       rename_i hcc
       obtain ⟨⟨⟨⟨hko, hl1⟩, h0⟩, hkz⟩, hl⟩ := hcc
       obtain ⟨r, hr, rfl, rfl⟩ := jAQ hs
       simp only [Option.some.injEq] at hr; subst hr
       obtain rfl := eA ha
       have hroom := jHI (h.blk b k hk).2.1 hko (len := len) (by omega) (by rw [hkz, Nat.mul_one]; exact hl)
       have := Lib.run_unsafeSliceData_row (P := P) w argTypes type ⟨π.mu b, off, none⟩ len (π.room b) (by omega)
       exact Does.same h (by simp [execOp, resolve, invoke, builtin, (ji hT hx).1, SV.conc, TV.conc, AV.za, this])
      ·
       simp at hs
     ·
      simp at hs
    ·
     simp at hs
   ·
    simp at hs
  ·
   unfold jIP at hs
   split at hs
   ·
    rename_i pt it x y hat ha
    rw [Option.bind_eq_some_iff] at hs
    obtain ⟨s, hx, hs⟩ := hs
    rw [Option.bind_eq_some_iff] at hs
    obtain ⟨u, hy, hs⟩ := hs
    obtain ⟨r, hr, rfl⟩ := jCE hs
    obtain rfl := eT hat
    obtain rfl := eA ha
    obtain ⟨w', h1, h2, h3⟩ := jEU (P := P) (it := it) (ty := type) h hr
    refine ⟨π, w', .inl ?_, h2, h3⟩
    simp only [execOp, resolve, invoke, builtin, Sem.run_bind, Sem.run_pure, Result.andThen_ok, List.map_toArray, List.map_cons, List.map_nil, (ji hT hx).1, (ji hT hy).1, h1, TV.conc, AV.za]
   ·
    simp at hs
  ·
   simp at hs
end
theorem jQm {call : FuncId → List AV → AS → Option (TV × AS)} (hc : jBe P call) {π : Pi} {st st' : AS} {w : World} {T : Tm} {a : Act} {v : TV} (h : HRel π st w) (hT : TRel π st.next T a.tmps)
  {o : Oper} (hs : aop P call T o.op st = some (v, st')) {K : Act → World → Prop} {Q : Exit → Act → World → Prop}
  (hK : ∀ π' w', HRel π' st' w' → Tr π st w π' st' w' → K (a.put o.dst (v.conc π')) w') : o.wp P a w K Q := by
 obtain ⟨dst, op, type, pos, after, guard⟩ := o
 by_cases hop : ∀ c, op = .call c → ∃ b, c.callee = .builtin b
 ·
  exact jEY (jOI h hT dst type pos after guard hs hop) hK
 ·
  have : ∃ c, op = .call c ∧ ∀ b, c.callee ≠ .builtin b := Classical.byContradiction fun hn => hop fun c hcc => Classical.byContradiction fun hb => hn ⟨c, hcc, fun b e => hb ⟨b, e⟩⟩
  obtain ⟨c, rfl, hb⟩ := this
  obtain ⟨callee, args, argTypes⟩ := c
  simp only [aop, jKb] at hs
  cases callee with
  | builtin b => exact absurd rfl (hb b)
  | invoke r m => simp at hs
  | value x =>
   simp only [jPp] at hs
   split at hs
   ·
    rename_i f caps hx
    rw [Option.bind_eq_some_iff] at hs
    obtain ⟨l, hl, hs⟩ := hs
    obtain ⟨g1, g2⟩ := jFE hT hl
    obtain ⟨e1, e2⟩ := ji hT hx
    have hall : (l ++ caps.map fun q => AV.sc (.ptr q.1 q.2)).all (AV.all (below st.next)) = true := by
     rw [List.all_append, g2, Bool.true_and, List.all_map]
     exact List.all_eq_true.2 fun q hq => List.all_eq_true.1 e2 q hq
    have eargs : args.map a.eval ++ (caps.map fun q => Value.pointer (some ⟨π.mu q.1, q.2, none⟩)).toArray = ((l ++ caps.map fun q => AV.sc (.ptr q.1 q.2)).map (AV.conc π)).toArray := by
     apply Array.toList_inj.1
     rw [Array.toList_append, Array.toList_map, g1, List.map_append, List.map_map]; rfl
    rcases hc f _ st v st' hs π w h hall with ⟨⟨fn, c, hf, hb', hn⟩, hcall⟩ | ⟨π', w', hv, h1, h2⟩
    case inr =>
     refine jEY ⟨π', w', .inl ?_, h1, h2⟩ hK
     rw [← eargs] at hv
     simpa [execOp, resolve, e1, SV.conc, Deferred.ofValue, invoke] using hv
    have hrun : (execOp a.eval ⟨dst, .call ⟨.value x, args, argTypes⟩, type, pos, after, guard⟩).run P w = .ok (.enter f ((l ++ caps.map fun q => AV.sc (.ptr q.1 q.2)).map (AV.conc π)).toArray) w := by
     have hn' : fn.name ≠ "runtime.NumGoroutine" := by simpa using hn
     rw [← eargs]
     simp [execOp, resolve, e1, SV.conc, Deferred.ofValue, invoke, callFunc, hf, hb', hn']
    unfold Oper.wp
    rw [hrun]
    refine Calls.mono hcall fun e w' he => ?_
    obtain ⟨π', rfl, h1, h2⟩ := he
    exact hK π' w' h1 h2
   ·
    simp at hs
end Go.Ev
namespace Go.Ev
variable {P : Program}
theorem jEF {π : Pi} {m : Nat} {T : Tm} {a : Act} (hT : TRel π m T a.tmps) {ops : Array Oper} {o : Oper} {b : Bool} (h : jOr ops.toList T o = some b) :
  Region.wanted o (yielded ops a.tmps) = b := by
 unfold jOr at h
 split at h
 ·
  rename_i hg
  simp only [Option.some.injEq] at h; subst h
  simp [Region.wanted, hg]
 ·
  rename_i j want hg
  rw [Array.getElem?_toList] at h
  simp only [Region.wanted, hg, yielded]
  split at h
  ·
   rename_i hd
   simp only [Option.some.injEq] at h; subst h
   rw [hd]; rfl
  ·
   rename_i d hd
   rw [hd]
   simp only [Option.bind_some]
   split at h
   ·
    simp at h
   ·
    rename_i b' hb
    simp only [Option.some.injEq] at h; subst h
    rw [(hT d _ hb).1]
    simp [TV.conc, AV.conc, SV.conc]
   ·
    rename_i v hv1 hv2
    simp only [Option.some.injEq] at h; subst h
    rw [(hT d _ hv2).1]
    cases v with
    | tup l => simp [TV.conc]
    | av v =>
     cases v with
     | agg l => simp [TV.conc, AV.conc]
     | sc s =>
      cases s with
      | bool b => exact absurd rfl (hv1 b)
      | _ => simp [TV.conc, AV.conc, SV.conc]
theorem jOd {α : Type} (n : Nat) (k : Nat → α) : fNat n k = k n := by cases n <;> rfl
theorem jQU {α : Type} (st : AS) (k : AS → α) : fAS st k = k st := by
 obtain ⟨h, nx, wr⟩ := st
 simp only [fAS, jOd]
theorem jEz {call : FuncId → List AV → AS → Option (TV × AS)} (hc : jBe P call) {π : Pi} {st st' : AS} {w : World} {T : Tm} {a : Act} {v : TV} (h : HRel π st w) (hT : TRel π st.next T a.tmps)
  {n i : Nat} {ops : Array Oper} {o : Oper} (hi : ops[i]? = some o) (hs : jLf P n call ops.toList T o st = some (v, st')) {K : Act → World → Prop} {Q : Exit → Act → World → Prop}
  (hK : ∀ π' w', HRel π' st' w' → Tr π st w π' st' w' → v.all (below st'.next) = true → (∀ d, o.dst = some d → d < n) → K (a.put o.dst (v.conc π')) w') : wpOp P ops Q i K a w := by
 unfold jLf at hs
 have hdst : jMs n o = true → ∀ d, o.dst = some d → d < n := fun hh d hd => by
  unfold jMs at hh; rw [hd] at hh; simpa [Nat.blt_eq] using hh
 unfold wpOp
 simp only [hi]
 split at hs
 ·
  rename_i hw
  rw [if_pos (jEF hT hw)]
  split at hs
  ·
   rename_i v1 st1 hop
   rw [jQU] at hs
   simp only [Bool.cond_eq_ite, Bool.and_eq_true] at hs
   split at hs
   ·
    rename_i hcond
    simp only [Option.some.injEq, Prod.mk.injEq] at hs
    obtain ⟨rfl, rfl⟩ := hs
    exact .inl (jQm hc h hT hop fun π' w' h1 h2 => hK π' w' h1 h2 hcond.1 (hdst hcond.2))
   ·
    simp at hs
  ·
   simp at hs
 ·
  rename_i hw
  rw [if_neg (by rw [jEF hT hw]; simp)]
  simp only [Bool.cond_eq_ite] at hs
  split at hs
  ·
   rename_i hcond
   simp only [Option.some.injEq, Prod.mk.injEq] at hs
   obtain ⟨rfl, rfl⟩ := hs
   exact hK π w h (Tr.refl h) rfl (hdst hcond)
  ·
   simp at hs
 ·
  simp at hs
theorem Act.size_put (a : Act) (d : Option Tmp) (v : Value) : (a.put d v).tmps.size = a.tmps.size := by
 cases d <;> simp [Act.put]
theorem Act.jEv (a : Act) (d : Option Tmp) (v : Value) : (a.put d v).defers = a.defers := by
 cases d <;> simp [Act.put]
theorem Act.get_put (a : Act) (d : Option Tmp) (v : Value) (t : Nat) (hd : ∀ e, d = some e → e < a.tmps.size) : (a.put d v).tmps[t]? = if d = some t then some v else a.tmps[t]? := by
 cases d with
 | none => simp [Act.put]
 | some e =>
  simp only [Act.put, Option.some.injEq]
  by_cases he : e = t
  ·
   subst he; simp [hd e rfl]
  ·
   rw [if_neg he, Array.getElem?_setIfInBounds_ne he]
theorem TRel.put {π π' : Pi} {m m' : Nat} {T : Tm} {a : Act} (hT : TRel π m T a.tmps) (hA : Agree (below m) π π') (hm : m ≤ m') {d : Option Nat} {v : TV} (hv : v.all (below m') = true)
  (hd : ∀ e, d = some e → e < a.tmps.size) : TRel π' m' (tset T d v) (a.put d (v.conc π')).tmps := by
 intro t u hu
 rw [jDU] at hu
 rw [Act.get_put _ _ _ _ hd]
 split at hu
 ·
  rename_i he
  simp only [Option.some.injEq] at hu; subst hu
  rw [if_pos he]; exact ⟨rfl, hv⟩
 ·
  rename_i he
  rw [if_neg he]
  obtain ⟨h1, h2⟩ := hT t u hu
  exact ⟨by rw [h1, TV.agree hA h2], TV.vK (zK hm) h2⟩
theorem TRel.agree {π π' : Pi} {m m' : Nat} {T : Tm} {tmps : Array Value} (hT : TRel π m T tmps) (hA : Agree (below m) π π') (hm : m ≤ m') : TRel π' m' T tmps := fun t u hu => by
 obtain ⟨h1, h2⟩ := hT t u hu
 exact ⟨by rw [h1, TV.agree hA h2], TV.vK (zK hm) h2⟩
structure Sit (n : Nat) (D : List Deferred) (π : Pi) (st : AS) (T : Tm) (a : Act) (w : World) : Prop where
 heap : HRel π st w
 tmps : TRel π st.next T a.tmps
 size : n ≤ a.tmps.size
 defers : a.defers = D
theorem jLd {call : FuncId → List AV → AS → Option (TV × AS)} (hc : jBe P call) {n : Nat} {D : List Deferred} {ops : Array Oper} {T' : Tm} {st' : AS} {Q : Exit → Act → World → Prop} (tail : List Nat) :
  ∀ (rest : List Oper) (k : Nat) (T : Tm) (st : AS) (π : Pi) (a : Act) (w : World), (∀ j, j < rest.length → rest[j]? = ops[k + j]?) → aseq P n call ops.toList rest T st = some (T', st') → Sit n D π st T a w →
  (∀ π' a' w', Sit n D π' st' T' a' w' → Tr π st w π' st' w' → wpOps P ops Q tail a' w') → wpOps P ops Q (List.range' k rest.length ++ tail) a w := by
 intro rest
 induction rest with
 | nil =>
  intro k T st π a w _ hs h hQ
  simp only [aseq, Option.some.injEq, Prod.mk.injEq] at hs
  obtain ⟨rfl, rfl⟩ := hs
  exact hQ π a w h (Tr.refl h.heap)
 | cons o rest ih =>
  intro k T st π a w hr hs h hQ
  have ho : ops[k]? = some o := by
   have := hr 0 (by simp)
   simpa using this.symm
  have hr' : ∀ j, j < rest.length → rest[j]? = ops[k + 1 + j]? := fun j hj => by
   have := hr (j + 1) (by simp; omega)
   rw [List.getElem?_cons_succ] at this
   rw [this]; congr 1; omega
  simp only [aseq] at hs
  split at hs
  ·
   rename_i v st1 hop
   rw [List.length_cons, List.range'_succ, List.cons_append, wpOps_cons]
   refine jEz hc h.heap h.tmps ho hop fun π1 w1 h1 h2 hv hd => ?_
   have hd' : ∀ e, o.dst = some e → e < a.tmps.size := fun e he => Nat.lt_of_lt_of_le (hd e he) h.size
   refine ih (k + 1) _ _ π1 _ w1 hr' hs ⟨h1, h.tmps.put h2.mu h2.next hv hd', by rw [Act.size_put]; exact h.size, by rw [Act.jEv]; exact h.defers⟩ ?_
   intro π' a' w' hS hT
   exact hQ π' a' w' hS (h2.trans hT)
  ·
   simp at hs
end Go.Ev
namespace Go.Ev
variable {P : Program}
theorem jBb (m i : Nat) : vW m i = m.testBit i := by
 rw [Nat.testBit_eq_decide_div_mod_eq, vW, Nat.shiftRight_eq_div_pow]
 by_cases h : m / 2 ^ i % 2 = 1
 ·
  rw [h]; simp
 ·
  simp only [h, decide_false]; rw [← Bool.not_eq_true, Nat.beq_eq]; exact h
theorem jHU {n i : Nat} (h : i < n) : vW (full n) i = true := by
 rw [jBb, full, Nat.testBit_two_pow_sub_one]; simpa using h
theorem jGc {acc : List Nat} {l : List Edge} {j : Nat} : vW (jDQ acc l) j = true ↔ ∃ e ∈ l, Region.binds .any e = true ∧ (j = e.on ∨ vW (acc.getD e.on 0) j = true) := by
 induction l with
 | nil => simp [jDQ, jBb]
 | cons e t ih =>
  rw [jDQ]
  cases hb : Region.binds .any e
  ·
   rw [cond_false, ih]
   constructor
   ·
    rintro ⟨x, hx, h⟩; exact ⟨x, List.mem_cons_of_mem _ hx, h⟩
   ·
    rintro ⟨x, hx, h⟩
    rw [List.mem_cons] at hx
    rcases hx with rfl | hx
    ·
     rw [hb] at h; simp at h
    ·
     exact ⟨x, hx, h⟩
  ·
   rw [cond_true, jBb, Nat.testBit_or, Nat.testBit_or, Bool.or_eq_true, Bool.or_eq_true, ← jBb (jDQ acc t), ih, ← jBb (acc.getD e.on 0)]
   have h1 : (1 <<< e.on).testBit j = true ↔ j = e.on := by
    rw [Nat.one_shiftLeft, Nat.testBit_two_pow]
    simp [eq_comm]
   rw [h1]
   constructor
   ·
    rintro (h | ⟨x, hx, h⟩)
    ·
     exact ⟨e, List.mem_cons_self .., hb, h⟩
    ·
     exact ⟨x, List.mem_cons_of_mem _ hx, h⟩
   ·
    rintro ⟨x, hx, h⟩
    rw [List.mem_cons] at hx
    rcases hx with rfl | hx
    ·
     exact .inl h.2
    ·
     exact .inr ⟨x, hx, h⟩
theorem jBq : ∀ (ops : List Oper) (acc : List Nat), (jAK acc ops).take acc.length = acc ∧
  ∀ i o, ops[i]? = some o → (jAK acc ops)[acc.length + i]? = some (waitsFor ((jAK acc ops).take (acc.length + i)) o)
 | [], acc => ⟨by simp [jAK], by simp⟩
 | o :: t, acc => by
  obtain ⟨h1, h2⟩ := jBq t (acc ++ [waitsFor acc o])
  rw [List.length_append, List.length_singleton] at h1 h2
  have e1 : (jAK (acc ++ [waitsFor acc o]) t).take acc.length = acc := by
   have := congrArg (List.take acc.length) h1
   rw [List.take_take, Nat.min_eq_left (Nat.le_succ _)] at this
   rw [this]; simp
  refine ⟨e1, fun i o' ho => ?_⟩
  rw [jAK]
  cases i with
  | zero =>
   simp only [List.getElem?_cons_zero, Option.some.injEq] at ho; subst ho
   rw [Nat.add_zero, e1]
   have := congrArg (fun l => l[acc.length]?) h1
   rw [List.getElem?_take, if_pos (Nat.lt_succ_self _)] at this
   rw [this]; simp
  | succ i =>
   have := h2 i o' (by simpa using ho)
   rw [show acc.length + (i + 1) = acc.length + 1 + i by omega]
   exact this
theorem jAn : ∀ (ops : List Oper) (k : Nat), jAM k ops = true → ∀ i o, ops[i]? = some o → ∀ e ∈ o.after, Region.binds .any e = true → e.on < k + i
 | [], _, _, i, o, h, _, _, _ => by simp at h
 | o :: t, k, hb, i, o', h, e, he, hbd => by
  simp only [jAM, Bool.and_eq_true] at hb
  cases i with
  | zero =>
   simp only [List.getElem?_cons_zero, Option.some.injEq] at h; subst h
   have := List.all_eq_true.1 hb.1 e (by simpa using he)
   rw [hbd] at this
   simpa [Nat.blt_eq] using this
  | succ i =>
   have := jAn t (k + 1) hb.2 i o' (by simpa using h) e he hbd
   omega
theorem jJE {ops : List Oper} (hb : jAM 0 ops = true) {i : Nat} {o : Oper} (h : ops[i]? = some o) {j : Nat} :
  vW ((zN ops).getD i 0) j = true ↔ ∃ e ∈ o.after, Region.binds .any e = true ∧ (j = e.on ∨ vW ((zN ops).getD e.on 0) j = true) := by
 have h2 := (jBq ops []).2 i o h
 simp only [List.length_nil, Nat.zero_add] at h2
 rw [show (zN ops).getD i 0 = waitsFor ((zN ops).take i) o by rw [List.getD_eq_getElem?_getD, zN, h2]; rfl]
 rw [waitsFor, jGc]
 have key : ∀ e ∈ o.after, Region.binds .any e = true → ((zN ops).take i).getD e.on 0 = (zN ops).getD e.on 0 := fun e he hbd => by
  have := jAn ops 0 hb i o h e he hbd
  rw [List.getD_eq_getElem?_getD, List.getD_eq_getElem?_getD, List.getElem?_take, if_pos (by omega)]
 constructor
 ·
  rintro ⟨e, he, h1, h2⟩
  have he' : e ∈ o.after := by simpa using he
  exact ⟨e, he', h1, by rw [key e he' h1] at h2; exact h2⟩
 ·
  rintro ⟨e, he, h1, h2⟩
  exact ⟨e, by simpa using he, h1, by rw [key e he h1]; exact h2⟩
theorem jCf {x : Option SV} {h : Heap} {b : Nat} {k : Blk} (hb : hget (jJX h x) b = some k) : hget h b = some k := by
 have one : ∀ c, hget (match hget h c with | some k => [(c, k)] | none => []) b = some k → hget h b = some k := fun c hb1 => by
  split at hb1
  ·
   rename_i k' hk
   rw [jm] at hb1
   split at hb1
   ·
    rename_i e; rw [← e, hk]; exact hb1
   ·
    simp [hget] at hb1
  ·
   simp [hget] at hb1
 unfold jJX at hb
 split at hb
 ·
  exact one _ hb
 ·
  exact one _ hb
 ·
  simp [hget] at hb
theorem jIz {T : Tm} {o : Oper} {h : Heap} {b : Nat} {k : Blk} (hb : hget (jKF T o h) b = some k) : hget h b = some k := by
 unfold jKF at hb
 split at hb
 ·
  exact jCf hb
 ·
  exact jCf hb
 ·
  exact jCf hb
 ·
  exact jCf hb
 ·
  split at hb
  ·
   simp [hget] at hb
  ·
   exact hb
 ·
  simp [hget] at hb
theorem jJI {ops : List Oper} {d : Nat} : d ∈ dstsOf ops ↔ ∃ (i : Nat) (o : Oper), ops[i]? = some o ∧ o.dst = some d := by
 induction ops with
 | nil => simp [dstsOf]
 | cons o t ih =>
  have key : (∃ (i : Nat) (o' : Oper), (o :: t)[i]? = some o' ∧ o'.dst = some d) ↔ o.dst = some d ∨ ∃ (i : Nat) (o' : Oper), t[i]? = some o' ∧ o'.dst = some d := by
   constructor
   ·
    rintro ⟨i, o', h1, h2⟩
    cases i with
    | zero => simp only [List.getElem?_cons_zero, Option.some.injEq] at h1; subst h1; exact .inl h2
    | succ i => exact .inr ⟨i, o', by simpa using h1, h2⟩
   ·
    rintro (h | ⟨i, o', h1, h2⟩)
    ·
     exact ⟨0, o, rfl, h⟩
    ·
     exact ⟨i + 1, o', by simpa using h1, h2⟩
  rw [key, dstsOf]
  cases hd : o.dst with
  | none => simp [ih]
  | some d' => simp [ih, eq_comm]
theorem jEm : ∀ {ops : List Oper}, nodup (dstsOf ops) = true → ∀ {i j : Nat} {o o' : Oper} {d : Nat}, ops[i]? = some o → ops[j]? = some o' → o.dst = some d → o'.dst = some d → i = j
 | [], _, i, _, _, _, _, h, _, _, _ => by simp at h
 | x :: t, hn, i, j, o, o', d, hi, hj, ho, ho' => by
  have ht : nodup (dstsOf t) = true := by
   cases hx : x.dst with
   | none => rw [dstsOf, hx] at hn; exact hn
   | some y => rw [dstsOf, hx] at hn; simp only [nodup, Bool.and_eq_true] at hn; exact hn.2
  have hx : ∀ {k : Nat} {u : Oper}, t[k]? = some u → u.dst = some d → x.dst ≠ some d := fun {k u} hk hu hxd => by
   rw [dstsOf, hxd] at hn
   simp only [nodup, Bool.and_eq_true, Bool.not_eq_true'] at hn
   have : has (dstsOf t) d = true := jDu.2 (jJI.2 ⟨k, u, hk, hu⟩)
   rw [hn.1] at this; simp at this
  cases i with
  | zero =>
   cases j with
   | zero => rfl
   | succ j =>
    simp only [List.getElem?_cons_zero, Option.some.injEq] at hi; subst hi
    exact absurd ho (hx (by simpa using hj) ho')
  | succ i =>
   cases j with
   | zero =>
    simp only [List.getElem?_cons_zero, Option.some.injEq] at hj; subst hj
    exact absurd ho' (hx (by simpa using hi) ho)
   | succ j => exact congrArg Nat.succ (jEm (i := i) (j := j) ht (by simpa using hi) (by simpa using hj) ho ho')
theorem jDp {pr : List Nat} {i d : Nat} : ∀ {ops : List Oper} {k j : Nat} {o : Oper}, ops[j]? = some o → o.dst = some d → k + j ≠ i → vW (pr.getD (k + j) 0) i = false → d ∈ jBc pr i k ops
 | [], _, j, _, h, _, _, _ => by simp at h
 | x :: t, k, j, o, h, hd, hne, hb => by
  cases j with
  | zero =>
   simp only [List.getElem?_cons_zero, Option.some.injEq] at h; subst h
   have h1 : Nat.beq k i = false := by rw [← Bool.not_eq_true, Nat.beq_eq]; simpa using hne
   rw [jBc, h1, show vW (pr.getD k 0) i = false from hb, hd]
   exact List.mem_cons_self ..
  | succ j =>
   have := jDp (pr := pr) (i := i) (k := k + 1) (j := j) (by simpa using h) hd (by omega) (by rw [show k + 1 + j = k + (j + 1) by omega]; exact hb)
   rw [jBc]
   cases (!(Nat.beq k i) && !(vW (pr.getD k 0) i))
   ·
    exact this
   ·
    rw [cond_true]; cases x.dst
    ·
     exact this
    ·
     exact List.mem_cons_of_mem _ this
theorem jDS {T : Tm} {m : Nat} : ∀ {res : List RS} {c : Nat} {v : TV}, tget (jEO T m res) c = some v → tget T c = some v ∨ ∃ r ∈ res, vW m r.i = true ∧ r.dst = some c ∧ v = r.v
 | [], c, v, h => .inl h
 | r :: t, c, v, h => by
  rw [jEO] at h
  cases hb : vW m r.i
  ·
   rw [hb, cond_false] at h
   exact (jDS h).imp id fun ⟨x, hx, h⟩ => ⟨x, List.mem_cons_of_mem _ hx, h⟩
  ·
   rw [hb, cond_true, jDU] at h
   split at h
   ·
    rename_i hd
    simp only [Option.some.injEq] at h
    exact .inr ⟨r, List.mem_cons_self .., hb, hd, h.symm⟩
   ·
    exact (jDS h).imp id fun ⟨x, hx, h⟩ => ⟨x, List.mem_cons_of_mem _ hx, h⟩
theorem jEa {T : Tm} {m : Nat} : ∀ {res : List RS} {c : Nat} {v : TV}, (∀ r ∈ res, vW m r.i = true) → tget (jEO T m res) c = some v →
  (tget T c = some v ∧ ∀ r ∈ res, r.dst ≠ some c) ∨ ∃ r ∈ res, r.dst = some c ∧ v = r.v
 | [], c, v, _, h => .inl ⟨h, by simp⟩
 | r :: t, c, v, hf, h => by
  rw [jEO, hf r (List.mem_cons_self ..), cond_true, jDU] at h
  split at h
  ·
   rename_i hd
   simp only [Option.some.injEq] at h
   exact .inr ⟨r, List.mem_cons_self .., hd, h.symm⟩
  ·
   rename_i hd
   rcases jEa (fun x hx => hf x (List.mem_cons_of_mem _ hx)) h with ⟨h1, h2⟩ | ⟨x, hx, h1⟩
   ·
    refine .inl ⟨h1, fun x hx => ?_⟩
    rw [List.mem_cons] at hx
    rcases hx with rfl | hx
    ·
     exact hd
    ·
     exact h2 x hx
   ·
    exact .inr ⟨x, List.mem_cons_of_mem _ hx, h1⟩
end Go.Ev
namespace Go.Ev
variable {P : Program}
def tmOf (ops : List Oper) (T : Tm) (i : Nat) (t : List RS) : Tm := jEO (tcut (jBc (zN ops) i 0 ops) T) ((zN ops).getD i 0) t
structure Told (P : Program) (n : Nat) (call : FuncId → List AV → AS → Option (TV × AS)) (ops : List Oper) (T : Tm) (h0 : Heap) (n0 : Nat) (t : List RS) (r : RS) (st : AS) (o : Oper) : Prop where
 op : ops[r.i]? = some o
 run : jLf P n call ops (tmOf ops T r.i t) o { heap := r.seen, next := r.s, wr := [] } = some (r.v, st)
 dst : r.dst = o.dst
 e : r.e = st.next
 wr : r.wr = older r.s st.wr
 blks : r.blks = jHQ r.s r.wr st.heap
 seen : ∀ b k, hget r.seen b = some k → hget (jCL h0 ((zN ops).getD r.i 0) t) b = some k
 v : r.v.all (okId n0 ((zN ops).getD r.i 0) t r.s r.e) = true
 cells : ∀ b k, hget r.blks b = some k → b < r.e ∧ k.cells.all (SV.all (okId n0 ((zN ops).getD r.i 0) t r.s r.e)) = true
 wrok : ∀ b ∈ r.wr, okId n0 ((zN ops).getD r.i 0) t r.s r.e b = true
 apart : apart ((zN ops).getD r.i 0) r.wr t = true
 se : r.s ≤ r.e
inductive Chain (P : Program) (n : Nat) (call : FuncId → List AV → AS → Option (TV × AS)) (ops : List Oper) (T : Tm) (h0 : Heap) (n0 : Nat) : Nat → List RS → Nat → Prop
 | nil : Chain P n call ops T h0 n0 0 [] n0
 | cons {i : Nat} {res : List RS} {nx : Nat} {r : RS} {st : AS} {o : Oper} (h : Chain P n call ops T h0 n0 i res nx) (hi : r.i = i) (hs : r.s = nx) (ht : Told P n call ops T h0 n0 res r st o) :
   Chain P n call ops T h0 n0 (i + 1) (r :: res) r.e
theorem jMk {h : Heap} {b : Nat} {k : Blk} (hb : hget h b = some k) : (b, k) ∈ h := by
 induction h with
 | nil => simp [hget] at hb
 | cons p t ih =>
  obtain ⟨c, y⟩ := p
  rw [jm] at hb
  split at hb
  ·
   rename_i e; subst e
   simp only [Option.some.injEq] at hb; subst hb
   exact List.mem_cons_self ..
  ·
   exact List.mem_cons_of_mem _ (ih hb)
theorem jHr {n : Nat} {call : FuncId → List AV → AS → Option (TV × AS)} {ops : List Oper} {T : Tm} {h0 : Heap} {n0 : Nat} {R : List RS} {z : Nat} :
  ∀ (rest : List Oper) (i : Nat) (res : List RS) (nx : Nat), jJf P n call ops (zN ops) T h0 n0 i rest res nx = some (R, z) → rest = ops.drop i → i + rest.length = ops.length →
  Chain P n call ops T h0 n0 i res nx → Chain P n call ops T h0 n0 ops.length R z := by
 intro rest
 induction rest with
 | nil =>
  intro i res nx h _ hl hc
  simp only [jJf, Option.some.injEq, Prod.mk.injEq] at h
  obtain ⟨rfl, rfl⟩ := h
  simp only [List.length_nil, Nat.add_zero] at hl
  exact hl ▸ hc
 | cons o rest ih =>
  intro i res nx h hr hl hc
  have ho : ops[i]? = some o := by
   have := congrArg (fun l => l[0]?) hr
   simpa using this.symm
  have hr' : rest = ops.drop (i + 1) := by
   have := congrArg (List.drop 1) hr
   simpa [Nat.add_comm] using this
  simp only [jJf] at h
  split at h
  ·
   rename_i v st hop
   simp only [Bool.cond_eq_ite, Bool.and_eq_true] at h
   split at h
   ·
    rename_i hcc
    obtain ⟨⟨⟨⟨c1, c2⟩, c5⟩, c3⟩, c4⟩ := hcc
    refine ih (i + 1) _ _ h hr' (by rw [List.length_cons] at hl; omega) (Chain.cons (st := st) (o := o) hc rfl rfl ?_)
    exact {
     op := ho
     run := hop
     dst := rfl
     e := rfl
     wr := rfl
     blks := rfl
     seen := fun b k hb => jIz hb
     v := c2
     cells := fun b k hb => by
      have := List.all_eq_true.1 c3 _ (jMk hb)
      simp only [Bool.and_eq_true, Nat.blt_eq] at this
      exact this
     wrok := fun b hb => List.all_eq_true.1 c5 b hb
     apart := c4
     se := by simpa using c1 }
   ·
    simp at h
  ·
   simp at h
structure All (P : Program) (n : Nat) (call : FuncId → List AV → AS → Option (TV × AS)) (ops : List Oper) (T : Tm) (h0 : Heap) (n0 : Nat) (N : Nat) (R : List RS) (nx : Nat) : Prop where
 le : n0 ≤ nx
 lt : ∀ r ∈ R, r.i < N
 every : ∀ i, i < N → ∃ r ∈ R, r.i = i
 one : ∀ r ∈ R, ∀ q ∈ R, r.i = q.i → r = q
 desc : R.Pairwise (fun r q => q.i < r.i)
 told : ∀ r ∈ R, ∃ t st o, Told P n call ops T h0 n0 t r st o ∧ (∀ q, q ∈ t ↔ q ∈ R ∧ q.i < r.i) ∧ t.Pairwise (fun r q => q.i < r.i)
 low : ∀ r ∈ R, n0 ≤ r.s ∧ r.s ≤ r.e ∧ r.e ≤ nx
 step : ∀ r ∈ R, ∀ q ∈ R, q.i < r.i → q.e ≤ r.s
theorem Chain.all {n : Nat} {call : FuncId → List AV → AS → Option (TV × AS)} {ops : List Oper} {T : Tm} {h0 : Heap} {n0 N : Nat} {R : List RS} {nx : Nat} (h : Chain P n call ops T h0 n0 N R nx) :
  All P n call ops T h0 n0 N R nx := by
 induction h with
 | nil => exact ⟨Nat.le_refl _, by simp, by omega, by simp, by simp, by simp, by simp, by simp⟩
 | @cons i res nx r st o h hi hs ht ih =>
  have hne : ∀ q ∈ res, q.i < r.i := fun q hq => by rw [hi]; exact ih.lt q hq
  have hse := ht.se
  have hse' := (ih.low)
  have hle := ih.le
  refine ⟨by omega, ?_, ?_, ?_, List.pairwise_cons.2 ⟨hne, ih.desc⟩, ?_, ?_, ?_⟩
  ·
   intro q hq
   rw [List.mem_cons] at hq
   rcases hq with rfl | hq
   ·
    omega
   ·
    have := ih.lt q hq; omega
  ·
   intro j hj
   by_cases e : j = i
   ·
    exact ⟨r, List.mem_cons_self .., by omega⟩
   ·
    obtain ⟨q, hq, h⟩ := ih.every j (by omega)
    exact ⟨q, List.mem_cons_of_mem _ hq, h⟩
  ·
   intro q hq q' hq' e
   rw [List.mem_cons] at hq hq'
   rcases hq with rfl | hq <;> rcases hq' with rfl | hq'
   ·
    rfl
   ·
    have := hne q' hq'; omega
   ·
    have := hne q hq; omega
   ·
    exact ih.one q hq q' hq' e
  ·
   intro q hq
   rw [List.mem_cons] at hq
   rcases hq with rfl | hq
   ·
    refine ⟨res, st, o, ht, fun q' => ?_, ih.desc⟩
    rw [List.mem_cons]
    constructor
    ·
     intro h; exact ⟨.inr h, hne q' h⟩
    ·
     rintro ⟨rfl | h, h2⟩
     ·
      omega
     ·
      exact h
   ·
    obtain ⟨t, st', o', h1, h2, h3⟩ := ih.told q hq
    refine ⟨t, st', o', h1, fun q' => ?_, h3⟩
    rw [h2, List.mem_cons]
    constructor
    ·
     rintro ⟨h3, h4⟩; exact ⟨.inr h3, h4⟩
    ·
     rintro ⟨rfl | h3, h4⟩
     ·
      have := hne q hq; omega
     ·
      exact ⟨h3, h4⟩
  ·
   intro q hq
   rw [List.mem_cons] at hq
   rcases hq with rfl | hq
   ·
    have := ih.le; exact ⟨by omega, hse, Nat.le_refl _⟩
   ·
    have := ih.low q hq; exact ⟨this.1, this.2.1, by omega⟩
  ·
   intro q hq q' hq' e
   rw [List.mem_cons] at hq hq'
   rcases hq with rfl | hq <;> rcases hq' with rfl | hq'
   ·
    omega
   ·
    have := ih.low q' hq'; omega
   ·
    have := hne q hq; omega
   ·
    exact ih.step q hq q' hq' e
theorem jBQ {h0 : Heap} {m : Nat} {b : Nat} {k : Blk} : ∀ {t : List RS}, t.Pairwise (fun r q => q.i < r.i) → hget (jCL h0 m t) b = some k →
  (hget h0 b = some k ∧ ∀ q ∈ t, b ∉ q.wr) ∨ ∃ r ∈ t, vW m r.i = true ∧ hget r.blks b = some k ∧ ∀ q ∈ t, r.i < q.i → b ∉ q.wr
 | [], _, h => .inl ⟨h, by simp⟩
 | r :: t, ho, h => by
  obtain ⟨hlt, ht⟩ := List.pairwise_cons.1 ho
  have rest : hget (hcut r.wr (jCL h0 m t)) b = some k →
    (hget h0 b = some k ∧ ∀ q ∈ r :: t, b ∉ q.wr) ∨ ∃ r' ∈ r :: t, vW m r'.i = true ∧ hget r'.blks b = some k ∧ ∀ q ∈ r :: t, r'.i < q.i → b ∉ q.wr := fun h => by
   rw [jDt] at h
   split at h
   ·
    simp at h
   ·
    rename_i hn
    rcases jBQ ht h with ⟨h1, h2⟩ | ⟨x, hx, h1, h2, h3⟩
    ·
     refine .inl ⟨h1, fun q hq => ?_⟩
     rw [List.mem_cons] at hq
     rcases hq with rfl | hq
     ·
      exact hn
     ·
      exact h2 q hq
    ·
     refine .inr ⟨x, List.mem_cons_of_mem _ hx, h1, h2, fun q hq hlt => ?_⟩
     rw [List.mem_cons] at hq
     rcases hq with rfl | hq
     ·
      exact hn
     ·
      exact h3 q hq hlt
  rw [jCL, jId] at h
  cases hb : vW m r.i
  ·
   rw [hb, cond_false] at h; exact rest h
  ·
   rw [hb, cond_true, jBF] at h
   cases hg : hget r.blks b with
   | none => rw [hg] at h; exact rest (by simpa using h)
   | some k' =>
    rw [hg] at h
    simp only [Option.some_or, Option.some.injEq] at h; subst h
    refine .inr ⟨r, List.mem_cons_self .., hb, hg, fun q hq hlt' => ?_⟩
    rw [List.mem_cons] at hq
    rcases hq with rfl | hq
    ·
     omega
    ·
     have := hlt q hq; omega
theorem jEb {h0 : Heap} {m : Nat} {b : Nat} : ∀ {t : List RS}, (∀ q ∈ t, b ∉ q.wr ∧ hget q.blks b = none) → hget (jCL h0 m t) b = hget h0 b
 | [], _ => rfl
 | r :: t, h => by
  obtain ⟨h1, h2⟩ := h r (List.mem_cons_self ..)
  have ih := jEb (h0 := h0) (m := m) (t := t) fun q hq => h q (List.mem_cons_of_mem _ hq)
  rw [jCL, jId]
  cases vW m r.i
  ·
   rw [cond_false, jDt, if_neg h1, ih]
  ·
   rw [cond_true, jBF, h2, jDt, if_neg h1, ih]; simp
end Go.Ev
namespace Go.Ev
variable {P : Program}
def Fact (h0 : Heap) (pr : List Nat) (R : List RS) (S : Nat → Prop) (b : Nat) (k : Blk) : Prop :=
 (hget h0 b = some k ∧ ∀ q ∈ R, S q.i → b ∉ q.wr) ∨
 ∃ r ∈ R, S r.i ∧ hget r.blks b = some k ∧ ∀ q ∈ R, S q.i → b ∈ q.wr → q.i = r.i ∨ vW (pr.getD r.i 0) q.i = true
def Wrote (R : List RS) (S : Nat → Prop) (b : Nat) : Prop := ∃ q ∈ R, S q.i ∧ b ∈ q.wr
structure Inv (h0 : Heap) (n0 : Nat) (pr : List Nat) (T : Tm) (R : List RS) (π : Pi) (w : World) (sz : Nat) (D : List Deferred) (S : Nat → Prop) (π' : Pi) (a' : Act) (w' : World) : Prop where
 mu : Agree (below n0) π π'
 os : w'.os = w.os
 tape : w'.tape = w.tape
 output : w'.output = w.output
 size : w.heap.size ≤ w'.heap.size
 t1 : ∀ t v, tget T t = some v → (∀ r ∈ R, S r.i → r.dst ≠ some t) → a'.tmps[t]? = some (v.conc π')
 t2 : ∀ r ∈ R, S r.i → ∀ d, r.dst = some d → a'.tmps[d]? = some (r.v.conc π')
 sz : a'.tmps.size = sz
 defers : a'.defers = D
 blk : ∀ b k, Fact h0 pr R S b k → BRel π' w' b k
 inj : ∀ b b' k k', Fact h0 pr R S b k → Fact h0 pr R S b' k' → π'.mu b = π'.mu b' → b = b'
 old : ∀ b k, Fact h0 pr R S b k → b < n0 → ∃ k0, hget h0 b = some k0
 frame : ∀ r, r < w.heap.size → (∀ b k, hget h0 b = some k → Wrote R S b → π.mu b ≠ r) → w'.heap[r]? = w.heap[r]?
 fresh : ∀ b k, Fact h0 pr R S b k → n0 ≤ b → w.heap.size ≤ π'.mu b ∨ ∃ b0 k0, hget h0 b0 = some k0 ∧ Wrote R S b0 ∧ π'.mu b = π.mu b0
def off (s e : Nat) (b : Nat) : Bool := !(Nat.ble s b && Nat.blt b e)
theorem jCB {s e b : Nat} : off s e b = true ↔ ¬ (s ≤ b ∧ b < e) := by
 rw [off, Bool.not_eq_true', ← Bool.not_eq_true, Bool.and_eq_true, Nat.ble_eq, Nat.blt_eq]
theorem jFQ {n m : Nat} {res : List RS} {s e b : Nat} : okId n m res s e b = true ↔ b < n ∨ (s ≤ b ∧ b < e) ∨ ∃ r ∈ res, vW m r.i = true ∧ r.s ≤ b ∧ b < r.e := by
 simp only [okId, Bool.or_eq_true, Bool.and_eq_true, Nat.blt_eq, Nat.ble_eq, List.any_eq_true, or_assoc, and_assoc]
theorem apart_spec {m : Nat} {wr : List Nat} {res : List RS} (h : apart m wr res = true) {r : RS} (hr : r ∈ res) (hb : vW m r.i = false) {b : Nat} (hm : b ∈ wr) : hget r.seen b = none ∧ b ∉ r.wr := by
 have h1 := List.all_eq_true.1 h r hr
 rw [hb, Bool.false_or] at h1
 have h2 := List.all_eq_true.1 h1 b hm
 rw [Bool.and_eq_true] at h2
 obtain ⟨h3, h4⟩ := h2
 constructor
 ·
  cases hg : hget r.seen b with
  | none => rfl
  | some k => rw [hg] at h3; simp at h3
 ·
  intro hh; rw [jDu.2 hh] at h4; simp at h4
section
variable {n : Nat} {call : FuncId → List AV → AS → Option (TV × AS)} {ops : Array Oper} {T : Tm} {h0 : Heap} {n0 N : Nat} {R : List RS} {nx : Nat}
 (hA : All P n call ops.toList T h0 n0 N R nx) (hb : jAM 0 ops.toList = true)
include hA
theorem jDN {r : RS} (hr : r ∈ R) {b : Nat} {k : Blk} (hg : hget r.blks b = some k) : r.s ≤ b ∨ b ∈ r.wr := by
 obtain ⟨t, st, o, ht, -⟩ := hA.told r hr
 rw [ht.blks, jEp] at hg
 split at hg
 ·
  assumption
 ·
  simp at hg
theorem jRK {r : RS} (hr : r ∈ R) {b : Nat} (hg : b ∈ r.wr) : b < r.s := by
 obtain ⟨t, st, o, ht, -⟩ := hA.told r hr
 rw [ht.wr, jBZ] at hg
 exact hg.2
theorem later {r q : RS} (hr : r ∈ R) (hq : q ∈ R) (hlt : q.i < r.i) {b : Nat} {k : Blk} (hg : hget r.blks b = some k) (hw : b ∈ q.wr) : vW ((zN ops.toList).getD r.i 0) q.i = true := by
 obtain ⟨t, st, o, ht, hm, -⟩ := hA.told r hr
 cases hbit : vW ((zN ops.toList).getD r.i 0) q.i with
 | true => rfl
 | false =>
  exfalso
  rcases jDN hA hr hg with h | h
  ·
   have h1 := jRK hA hq hw
   have h2 := hA.step r hr q hq hlt
   have h3 := hA.low q hq
   omega
  ·
   exact (apart_spec ht.apart ((hm q).2 ⟨hq, hlt⟩) hbit h).2 hw
theorem jGi {S : Nat → Prop} (hcl : ∀ i, S i → ∀ j, vW ((zN ops.toList).getD i 0) j = true → S j) {r : RS} (hr : r ∈ R) (hn : ¬ S r.i)
  (hp : ∀ j, vW ((zN ops.toList).getD r.i 0) j = true → S j) {b : Nat} {k : Blk} (hs : hget r.seen b = some k) : Fact h0 (zN ops.toList) R S b k := by
 obtain ⟨t, st, o, ht, hm, hd⟩ := hA.told r hr
 have hlater : ∀ q ∈ R, S q.i → r.i < q.i → b ∉ q.wr := fun q hq hSq hlt hw => by
  obtain ⟨t', st', o', ht', hm', -⟩ := hA.told q hq
  have hbit : vW ((zN ops.toList).getD q.i 0) r.i = false := by
   cases hbit : vW ((zN ops.toList).getD q.i 0) r.i with
   | false => rfl
   | true => exact absurd (hcl q.i hSq r.i hbit) hn
  have := (apart_spec ht'.apart ((hm' r).2 ⟨hr, hlt⟩) hbit hw).1
  rw [hs] at this; simp at this
 have hself : ∀ q ∈ R, S q.i → q.i ≠ r.i := fun q hq hSq e => hn (e ▸ hSq)
 rcases jBQ hd (ht.seen b k hs) with ⟨h1, h2⟩ | ⟨x, hx, hxm, h1, h2⟩
 ·
  refine .inl ⟨h1, fun q hq hSq hw => ?_⟩
  rcases Nat.lt_trichotomy q.i r.i with hlt | heq | hgt
  ·
   exact h2 q ((hm q).2 ⟨hq, hlt⟩) hw
  ·
   exact hself q hq hSq heq
  ·
   exact hlater q hq hSq hgt hw
 ·
  obtain ⟨hxR, hxlt⟩ := (hm x).1 hx
  refine .inr ⟨x, hxR, hp x.i hxm, h1, fun q hq hSq hw => ?_⟩
  rcases Nat.lt_trichotomy q.i r.i with hlt | heq | hgt
  ·
   rcases Nat.lt_trichotomy q.i x.i with hlt' | heq' | hgt'
   ·
    exact .inr (later hA hxR hq hlt' h1 hw)
   ·
    exact .inl heq'
   ·
    exact absurd hw (h2 q ((hm q).2 ⟨hq, hlt⟩) hgt')
  ·
   exact absurd heq (hself q hq hSq)
  ·
   exact absurd hw (hlater q hq hSq hgt)
theorem jDl {r q : RS} (hr : r ∈ R) (hq : q ∈ R) (hne : q.i ≠ r.i) {b : Nat} (h1 : q.s ≤ b) (h2 : b < q.e) : ¬ (r.s ≤ b ∧ b < r.e) := by
 rintro ⟨h3, h4⟩
 rcases Nat.lt_or_gt_of_ne hne with hlt | hgt
 ·
  have := hA.step r hr q hq hlt; omega
 ·
  have := hA.step q hq r hr hgt; omega
theorem jFP {S : Nat → Prop} (hcl : ∀ i, S i → ∀ j, vW ((zN ops.toList).getD i 0) j = true → S j) {r : RS} (hr : r ∈ R) (hn : ¬ S r.i) {q : RS} (hq : q ∈ R) (hSq : S q.i)
  {t : List RS} (hm : ∀ x, x ∈ t ↔ x ∈ R ∧ x.i < q.i) (b : Nat) (h : okId n0 ((zN ops.toList).getD q.i 0) t q.s q.e b = true) : off r.s r.e b = true := by
 rw [jCB]
 have hlow := hA.low r hr
 rcases jFQ.1 h with h | ⟨h1, h2⟩ | ⟨x, hx, hxm, h1, h2⟩
 ·
  omega
 ·
  exact jDl hA hr hq (fun e => hn (e ▸ hSq)) h1 h2
 ·
  exact jDl hA hr ((hm x).1 hx).1 (fun e => hn (e ▸ hcl q.i hSq x.i hxm)) h1 h2
theorem jDm {r : RS} (hr : r ∈ R) {t : List RS} (hm : ∀ x, x ∈ t ↔ x ∈ R ∧ x.i < r.i) (b : Nat) (h : okId n0 ((zN ops.toList).getD r.i 0) t r.s r.e b = true) : b < r.e := by
 have hlow := hA.low r hr
 rcases jFQ.1 h with h | ⟨h1, h2⟩ | ⟨x, hx, hxm, h1, h2⟩
 ·
  omega
 ·
  exact h2
 ·
  have := hA.step r hr x ((hm x).1 hx).1 ((hm x).1 hx).2; omega
theorem jMj (hnd : nodup (dstsOf ops.toList) = true) (hc : jBe P call) {π : Pi} {w : World} {sz : Nat} {D : List Deferred} (hn : n ≤ sz)
  (hh0 : ∀ b k, hget h0 b = some k → b < n0 ∧ k.cells.all (SV.all (below n0)) = true) (hT0 : ∀ t v, tget T t = some v → v.all (below n0) = true)
  {S : Nat → Prop} (hcl : ∀ i, S i → ∀ j, vW ((zN ops.toList).getD i 0) j = true → S j) {r : RS} (hr : r ∈ R) (hnS : ¬ S r.i)
  (hp : ∀ j, vW ((zN ops.toList).getD r.i 0) j = true → S j) {π' : Pi} {a' : Act} {w' : World}
  (hI : Inv h0 n0 (zN ops.toList) T R π w sz D S π' a' w') {K : Act → World → Prop} {Q : Exit → Act → World → Prop}
  (hK : ∀ π2 a2 w2, Inv h0 n0 (zN ops.toList) T R π w sz D (fun j => S j ∨ j = r.i) π2 a2 w2 → K a2 w2) : wpOp P ops Q r.i K a' w' := by
 obtain ⟨t, st, o, ht, hm, hd⟩ := hA.told r hr
 have hlow := hA.low r hr
 have hself : ∀ q ∈ R, S q.i → q.i ≠ r.i := fun q hq hSq e => hnS (e ▸ hSq)
 have hsf : ∀ b k, hget r.seen b = some k → Fact h0 (zN ops.toList) R S b k := fun b k h => jGi hA hcl hr hnS hp h
 have hseenB : ∀ b k, hget r.seen b = some k → b < r.s ∧ k.cells.all (SV.all (below r.s)) = true := fun b k hs => by
  rcases jBQ hd (ht.seen b k hs) with ⟨h1, -⟩ | ⟨x, hx, hxm, h1, -⟩
  ·
   obtain ⟨h2, h3⟩ := hh0 b k h1
   exact ⟨by omega, SVs.vK (zK hlow.1) h3⟩
  ·
   obtain ⟨hxR, hxlt⟩ := (hm x).1 hx
   obtain ⟨tx, stx, ox, htx, hmx, -⟩ := hA.told x hxR
   have hst := hA.step r hr x hxR hxlt
   obtain ⟨h2, h3⟩ := htx.cells b k h1
   exact ⟨by omega, SVs.vK (fun c hcc => by have := jDm hA hxR hmx c hcc; rw [jw]; omega) h3⟩
 have hH : HRel π' { heap := r.seen, next := r.s, wr := [] } w' := {
  blk := fun b k hs => ⟨(hseenB b k hs).1, hI.blk b k (hsf b k hs), (hseenB b k hs).2⟩
  inj := fun b b' k k' h1 h2 e => hI.inj b b' k k' (hsf b k h1) (hsf b' k' h2) e }
 have hTm : TRel π' r.s (tmOf ops.toList T r.i t) a'.tmps := fun c v hv => by
  have second : ∀ x ∈ t, vW ((zN ops.toList).getD r.i 0) x.i = true → x.dst = some c → v = x.v → a'.tmps[c]? = some (v.conc π') ∧ v.all (below r.s) = true := fun x hx hxm hxd hxv => by
   obtain ⟨hxR, hxlt⟩ := (hm x).1 hx
   obtain ⟨tx, stx, ox, htx, hmx, -⟩ := hA.told x hxR
   have hst := hA.step r hr x hxR hxlt
   subst hxv
   exact ⟨hI.t2 x hxR (hp x.i hxm) c hxd, TV.vK (fun c hcc => by have := jDm hA hxR hmx c hcc; rw [jw]; omega) htx.v⟩
  rcases jDS hv with h1 | ⟨x, hx, hxm, hxd, hxv⟩
  ·
   rw [jJu] at h1
   split at h1
   ·
    simp at h1
   ·
    rename_i hnot
    refine ⟨hI.t1 c v h1 fun q hq hSq hqd => hnot ?_, TV.vK (zK hlow.1) (hT0 c v h1)⟩
    obtain ⟨tq, stq, oq, htq, -⟩ := hA.told q hq
    have hbit : vW ((zN ops.toList).getD q.i 0) r.i = false := by
     cases hbit : vW ((zN ops.toList).getD q.i 0) r.i with
     | false => rfl
     | true => exact absurd (hcl q.i hSq r.i hbit) hnS
    exact jDp (k := 0) htq.op (htq.dst ▸ hqd) (by rw [Nat.zero_add]; exact hself q hq hSq) (by rw [Nat.zero_add]; exact hbit)
  ·
   exact second x hx hxm hxd hxv
 have hop : ops[r.i]? = some o := by have := ht.op; rwa [Array.getElem?_toList] at this
 refine jEz hc hH hTm hop ht.run fun π1 w1 h1 h2 hv hdn => ?_
 let π2 : Pi := { mu := fun b => if r.s ≤ b ∧ b < r.e then π1.mu b else π'.mu b, room := fun b => if r.s ≤ b ∧ b < r.e then π1.room b else π'.room b }
 have hoff : Agree (off r.s r.e) π' π2 := fun b h => by
  have := jCB.1 h
  exact ⟨if_neg this, if_neg this⟩
 have hin : Agree (below r.e) π1 π2 := fun b h => by
  have hb := jw.1 h
  by_cases hs : r.s ≤ b
  ·
   exact ⟨if_pos ⟨hs, hb⟩, if_pos ⟨hs, hb⟩⟩
  ·
   have h3 := h2.mu b (jw.2 (show b < r.s by omega))
   exact ⟨(if_neg (fun x => hs x.1)).trans h3.1.symm, (if_neg (fun x => hs x.1)).trans h3.2.symm⟩
 have hwr : ∀ b, b < r.s → (b ∈ st.wr ↔ b ∈ r.wr) := fun b hlt => by rw [ht.wr, jBZ]; exact ⟨fun h => ⟨h, hlt⟩, fun h => h.1⟩
 have hblk : ∀ b k, hget r.blks b = some k → hget st.heap b = some k := fun b k h => by
  rw [ht.blks, jEp] at h
  split at h
  ·
   exact h
  ·
   simp at h
 have hrd : ∀ e, r.dst = some e → e < a'.tmps.size := fun e he => by
  rw [hI.sz]; exact Nat.lt_of_lt_of_le (hdn e (ht.dst ▸ he)) hn
 have hvv : r.v.conc π2 = r.v.conc π1 := TV.agree (fun b h => hin b (jw.2 (jDm hA hr hm b h))) ht.v
 have hold : ∀ b k, (hget h0 b = some k ∨ ∃ q ∈ R, S q.i ∧ hget q.blks b = some k) → k.cells.all (SV.all (off r.s r.e)) = true ∧ off r.s r.e b = true := fun b k h => by
  rcases h with h | ⟨q, hq, hSq, h⟩
  ·
   obtain ⟨h3, h4⟩ := hh0 b k h
   refine ⟨SVs.vK (fun c hcc => ?_) h4, ?_⟩
   ·
    rw [jCB]; have := jw.1 hcc; omega
   ·
    rw [jCB]; omega
  ·
   obtain ⟨tq, stq, oq, htq, hmq, -⟩ := hA.told q hq
   obtain ⟨h3, h4⟩ := htq.cells b k h
   refine ⟨SVs.vK (fun c hcc => jFP hA hcl hr hnS hq hSq hmq c hcc) h4, ?_⟩
   refine jFP hA hcl hr hnS hq hSq hmq b ?_
   rcases jDN hA hq h with h5 | h5
   ·
    exact jFQ.2 (.inr (.inl ⟨h5, h3⟩))
   ·
    exact htq.wrok b h5
 have cases' : ∀ b k, Fact h0 (zN ops.toList) R (fun j => S j ∨ j = r.i) b k →
   (Fact h0 (zN ops.toList) R S b k ∧ b ∉ r.wr ∧ k.cells.all (SV.all (off r.s r.e)) = true ∧ off r.s r.e b = true) ∨ hget r.blks b = some k := fun b k h => by
  rcases h with ⟨h3, h4⟩ | ⟨x, hx, hSx, h3, h4⟩
  ·
   exact .inl ⟨.inl ⟨h3, fun q hq hSq => h4 q hq (.inl hSq)⟩, h4 r hr (.inr rfl), hold b k (.inl h3)⟩
  ·
   by_cases e : x.i = r.i
   ·
    exact .inr (hA.one x hx r hr e ▸ h3)
   ·
    have hSx' : S x.i := hSx.resolve_right e
    refine .inl ⟨.inr ⟨x, hx, hSx', h3, fun q hq hSq => h4 q hq (.inl hSq)⟩, fun hw => ?_, hold b k (.inr ⟨x, hx, hSx', h3⟩)⟩
    rcases h4 r hr (.inr rfl) hw with h5 | h5
    ·
     exact e h5.symm
    ·
     exact hnS (hcl x.i hSx' r.i h5)
 have hltw : ∀ b k, Fact h0 (zN ops.toList) R S b k → π'.mu b < w'.heap.size := fun b k h => by
  obtain ⟨rest, fz, h3, -⟩ := hI.blk b k h
  exact (Array.getElem?_eq_some_iff.1 h3).1
 have hwseen : ∀ b k, hget r.seen b = some k → b ∈ st.wr → b ∈ r.wr := fun b k hs hw => (hwr b (hseenB b k hs).1).1 hw
 have hmix : ∀ b k b' k', Fact h0 (zN ops.toList) R S b k → b ∉ r.wr → off r.s r.e b = true → hget r.blks b' = some k' → π2.mu b = π2.mu b' → False := fun b k b' k' hf hnw ho hg e => by
  rw [(hoff b ho).1, (hin b' (jw.2 (ht.cells b' k' hg).1)).1] at e
  rcases Nat.lt_or_ge b' r.s with hlt | hge
  ·
   have hw' : b' ∈ r.wr := (jDN hA hr hg).resolve_left (by omega)
   rw [(h2.mu b' (jw.2 hlt)).1] at e
   obtain ⟨k1, hk1⟩ := h2.old b' k' hlt (hblk b' k' hg)
   have := hI.inj b b' k k1 hf (hsf b' k1 hk1) e
   exact hnw (this ▸ hw')
  ·
   rcases h2.fresh b' k' (hblk b' k' hg) hge with h3 | ⟨b0, k0, h3, h4, h5⟩
   ·
    have := hltw b k hf; omega
   ·
    rw [h5] at e
    have := hI.inj b b0 k k0 hf (hsf b0 k0 h3) e
    exact hnw (this ▸ hwseen b0 k0 h3 h4)
 refine hK π2 _ w1 {
  mu := fun b h => by
   have h3 := hI.mu b h
   have h4 := hoff b (jCB.2 (by have := jw.1 h; omega))
   exact ⟨h4.1.trans h3.1, h4.2.trans h3.2⟩
  os := h2.os.trans hI.os
  tape := h2.tape.trans hI.tape
  output := h2.output.trans hI.output
  size := Nat.le_trans hI.size h2.size
  t1 := fun c v hv hcond => by
   rw [Act.get_put _ _ _ _ (ht.dst ▸ hrd), if_neg (ht.dst ▸ hcond r hr (.inr rfl)), hI.t1 c v hv fun q hq hSq => hcond q hq (.inl hSq)]
   rw [TV.agree hoff (TV.vK (fun b hb => ?_) (hT0 c v hv))]
   rw [jCB]; have := jw.1 hb; omega
  t2 := fun q hq hSq d hd => by
   rw [Act.get_put _ _ _ _ (ht.dst ▸ hrd)]
   by_cases e : q.i = r.i
   ·
    obtain rfl := hA.one q hq r hr e
    rw [if_pos (ht.dst ▸ hd), hvv]
   ·
    have hSq' : S q.i := hSq.resolve_right e
    obtain ⟨tq, stq, oq, htq, hmq, -⟩ := hA.told q hq
    rw [if_neg (fun h => e (jEm hnd htq.op ht.op (htq.dst ▸ hd) h)), hI.t2 q hq hSq' d hd]
    rw [TV.agree hoff (TV.vK (fun b hb => jFP hA hcl hr hnS hq hSq' hmq b hb) htq.v)]
  sz := by rw [Act.size_put]; exact hI.sz
  defers := by rw [Act.jEv]; exact hI.defers
  blk := fun b k hf => by
   rcases cases' b k hf with ⟨h3, h4, h5, h6⟩ | h3
   ·
    obtain ⟨rest, fz, g1, g0, g2, g3⟩ := hI.blk b k h3
    refine ⟨rest, fz, ?_, g0, g2, ?_⟩
    ·
     rw [(hoff b h6).1, SV.agrees hoff h5, h2.frame _ (hltw b k h3) ?_]
     ·
      exact g1
     ·
      intro b' k' hs hw e
      have := hI.inj b' b k' k (hsf b' k' hs) h3 e
      exact h4 (this ▸ hwseen b' k' hs hw)
    ·
     rw [(hoff b h6).2]; exact g3
   ·
    obtain ⟨g1, g2, g3⟩ := h1.blk b k (hblk b k h3)
    rw [← ht.e] at g1 g3
    exact g2.agree g1 g3 hin rfl
  inj := fun b b' k k' hf hf' e => by
   rcases cases' b k hf with ⟨h3, h4, h5, h6⟩ | h3 <;> rcases cases' b' k' hf' with ⟨h3', h4', h5', h6'⟩ | h3'
   ·
    rw [(hoff b h6).1, (hoff b' h6').1] at e; exact hI.inj b b' k k' h3 h3' e
   ·
    exact (hmix b k b' k' h3 h4 h6 h3' e).elim
   ·
    exact (hmix b' k' b k h3' h4' h6' h3 e.symm).elim
   ·
    rw [(hin b (jw.2 (ht.cells b k h3).1)).1, (hin b' (jw.2 (ht.cells b' k' h3').1)).1] at e
    exact h1.inj b b' k k' (hblk b k h3) (hblk b' k' h3') e
  old := fun b k hf hlt => by
   rcases cases' b k hf with ⟨h3, -⟩ | h3
   ·
    exact hI.old b k h3 hlt
   ·
    obtain ⟨k1, hk1⟩ := h2.old b k (by show b < r.s; omega) (hblk b k h3)
    exact hI.old b k1 (hsf b k1 hk1) hlt
  frame := fun r0 hr0 hcond => by
   refine (h2.frame r0 (Nat.lt_of_lt_of_le hr0 hI.size) ?_).trans (hI.frame r0 hr0 fun b k hg hw => hcond b k hg (hw.imp fun q hq => ⟨hq.1, .inl hq.2.1, hq.2.2⟩))
   intro b' k' hs hw
   have hw' : Wrote R (fun j => S j ∨ j = r.i) b' := ⟨r, hr, .inr rfl, hwseen b' k' hs hw⟩
   rcases Nat.lt_or_ge b' n0 with hlt | hge
   ·
    obtain ⟨k0, hk0⟩ := hI.old b' k' (hsf b' k' hs) hlt
    rw [(hI.mu b' (jw.2 hlt)).1]
    exact hcond b' k0 hk0 hw'
   ·
    rcases hI.fresh b' k' (hsf b' k' hs) hge with h3 | ⟨b0, k0, h3, h4, h5⟩
    ·
     omega
    ·
     rw [h5]; exact hcond b0 k0 h3 (h4.imp fun q hq => ⟨hq.1, .inl hq.2.1, hq.2.2⟩)
  fresh := fun b k hf hge => by
   have key : ∀ b k, Fact h0 (zN ops.toList) R S b k → n0 ≤ b → w.heap.size ≤ π'.mu b ∨ ∃ b0 k0, hget h0 b0 = some k0 ∧ Wrote R (fun j => S j ∨ j = r.i) b0 ∧ π'.mu b = π.mu b0 := fun b k hf hge =>
    (hI.fresh b k hf hge).imp id fun ⟨b0, k0, g1, g2, g3⟩ => ⟨b0, k0, g1, g2.imp fun q hq => ⟨hq.1, .inl hq.2.1, hq.2.2⟩, g3⟩
   rcases cases' b k hf with ⟨h3, h4, h5, h6⟩ | h3
   ·
    rw [(hoff b h6).1]; exact key b k h3 hge
   ·
    rcases Nat.lt_or_ge b r.s with hlt | hge'
    ·
     obtain ⟨k1, hk1⟩ := h2.old b k hlt (hblk b k h3)
     rw [(hoff b (jCB.2 (by omega))).1]
     exact key b k1 (hsf b k1 hk1) hge
    ·
     rw [(hin b (jw.2 (ht.cells b k h3).1)).1]
     rcases h2.fresh b k (hblk b k h3) hge' with g1 | ⟨b0, k0, g1, g2, g3⟩
     ·
      exact .inl (Nat.le_trans hI.size g1)
     ·
      rw [g3]
      rcases Nat.lt_or_ge b0 n0 with hlt0 | hge0
      ·
       obtain ⟨k1, hk1⟩ := hI.old b0 k0 (hsf b0 k0 g1) hlt0
       exact .inr ⟨b0, k1, hk1, ⟨r, hr, .inr rfl, hwseen b0 k0 g1 g2⟩, (hI.mu b0 (jw.2 hlt0)).1⟩
      ·
       exact key b0 k0 (hsf b0 k0 g1) hge0 }
end
end Go.Ev
namespace Go.Ev
variable {P : Program}
theorem countP_set : ∀ (l : List Bool) (i : Nat), l[i]? = some false → (l.set i true).countP (fun b => !b) + 1 = l.countP (fun b => !b)
 | [], _, h => by simp at h
 | x :: t, 0, h => by
  simp only [List.getElem?_cons_zero, Option.some.injEq] at h; subst h
  simp
 | x :: t, i + 1, h => by
  have := countP_set t i (by simpa using h)
  rw [List.set_cons_succ, List.countP_cons, List.countP_cons]
  omega
section
variable {n : Nat} {call : FuncId → List AV → AS → Option (TV × AS)} {ops : Array Oper} {T : Tm} {h0 : Heap} {n0 : Nat} {R : List RS} {nx : Nat}
 (hA : All P n call ops.toList T h0 n0 ops.size R nx) (hb : jAM 0 ops.toList = true) (hnd : nodup (dstsOf ops.toList) = true) (hc : jBe P call)
include hA hb hnd hc
theorem jQn {π : Pi} {w : World} {sz : Nat} {D : List Deferred} (hn : n ≤ sz) (hh0 : ∀ b k, hget h0 b = some k → b < n0 ∧ k.cells.all (SV.all (below n0)) = true)
  (hT0 : ∀ t v, tget T t = some v → v.all (below n0) = true) {Q : Exit → Act → World → Prop}
  (hQ : ∀ π' a' w', Inv h0 n0 (zN ops.toList) T R π w sz D (fun j => j < ops.size) π' a' w' → Q .normal a' w') :
  ∀ (fuel : Nat) (listed : Array Bool) (π' : Pi) (a' : Act) (w' : World), listed.size = ops.size → listed.toList.countP (fun b => !b) ≤ fuel →
  (∀ i, listed[i]? = some true → ∀ j, vW ((zN ops.toList).getD i 0) j = true → listed[j]? = some true) →
  Inv h0 n0 (zN ops.toList) T R π w sz D (fun j => listed[j]? = some true) π' a' w' → wpAny P .any ops Q fuel listed a' w' := by
 have hdone : ∀ (listed : Array Bool) (π' : Pi) (a' : Act) (w' : World), listed.size = ops.size → Region.ready .any ops listed = [] →
   Inv h0 n0 (zN ops.toList) T R π w sz D (fun j => listed[j]? = some true) π' a' w' → Q .normal a' w' := fun listed π' a' w' hls hr hI => by
  have hall : ∀ i, i < ops.size → listed[i]? = some true := by
   intro i
   induction i using Nat.strongRecOn with
   | _ i ih =>
    intro hi
    cases hl : listed[i]? with
    | none => rw [Array.getElem?_eq_none_iff] at hl; omega
    | some x =>
     cases x with
     | true => rfl
     | false =>
      exfalso
      have : i ∈ Region.ready .any ops listed := by
       rw [mem_ready]
       refine ⟨by simp [Array.getD_eq_getD_getElem?, hl], ops[i], by simp [hi], fun e he hbd => ?_⟩
       have hlt := jAn ops.toList 0 hb i ops[i] (by simp [hi]) e he hbd
       have := ih e.on (by omega) (by omega)
       simp [Array.getD_eq_getD_getElem?, this]
      rw [hr] at this; simp at this
  have : (fun j => listed[j]? = some true) = fun j => j < ops.size := funext fun j => propext ⟨fun h => by
   have := (Array.getElem?_eq_some_iff.1 h).1; omega, hall j⟩
  rw [this] at hI
  exact hQ π' a' w' hI
 intro fuel
 induction fuel with
 | zero =>
  intro listed π' a' w' hls hf hcl hI
  have hr : Region.ready .any ops listed = [] := by
   rw [List.eq_nil_iff_forall_not_mem]
   intro i hi
   obtain ⟨h1, o, ho, -⟩ := mem_ready.1 hi
   have hlt := (Array.getElem?_eq_some_iff.1 ho).1
   have h2 : listed[i]? = some false := by
    rw [Array.getD_eq_getD_getElem?] at h1
    cases hl : listed[i]? with
    | none => rw [hl] at h1; simp at h1
    | some x => rw [hl] at h1; simp at h1; rw [h1]
   have := countP_set listed.toList i (by rw [Array.getElem?_toList]; exact h2)
   omega
  exact ⟨hr, hdone listed π' a' w' hls hr hI⟩
 | succ fuel ih =>
  intro listed π' a' w' hls hf hcl hI
  refine ⟨fun hr => hdone listed π' a' w' hls hr hI, fun i hi => ?_⟩
  obtain ⟨h1, o, ho, he⟩ := mem_ready.1 hi
  have hlt := (Array.getElem?_eq_some_iff.1 ho).1
  have h2 : listed[i]? = some false := by
   rw [Array.getD_eq_getD_getElem?] at h1
   cases hl : listed[i]? with
   | none => rw [hl] at h1; simp at h1
   | some x => rw [hl] at h1; simp at h1; rw [h1]
  have hp : ∀ j, vW ((zN ops.toList).getD i 0) j = true → listed[j]? = some true := fun j hj => by
   obtain ⟨e, hem, hbd, h3⟩ := (jJE hb (by rw [Array.getElem?_toList]; exact ho)).1 hj
   have h4 : listed[e.on]? = some true := by
    have := he e hem hbd
    rw [Array.getD_eq_getD_getElem?] at this
    cases hl : listed[e.on]? with
    | none => rw [hl] at this; simp at this
    | some x => rw [hl] at this; simp at this; rw [this]
   rcases h3 with rfl | h3
   ·
    exact h4
   ·
    exact hcl e.on h4 j h3
  obtain ⟨r, hr, hri⟩ := hA.every i hlt
  subst hri
  refine jMj hA hnd hc hn hh0 hT0 (S := fun j => listed[j]? = some true) hcl hr (by rw [h2]; simp) hp hI fun π2 a2 w2 hI2 => ?_
  have hset : ∀ j, (listed.setIfInBounds r.i true)[j]? = some true ↔ (listed[j]? = some true ∨ j = r.i) := fun j => by
   by_cases e : r.i = j
   ·
    subst e
    simp [show r.i < listed.size by omega]
   ·
    rw [Array.getElem?_setIfInBounds_ne e]
    exact ⟨.inl, fun h => h.resolve_right fun x => e x.symm⟩
  refine ih _ π2 a2 w2 (by rw [Array.size_setIfInBounds]; exact hls) ?_ ?_ ?_
  ·
   have := countP_set listed.toList r.i (by rw [Array.getElem?_toList]; exact h2)
   rw [Array.toList_setIfInBounds]; omega
  ·
   intro k hk j hj
   rw [hset] at hk ⊢
   rcases hk with hk | rfl
   ·
    exact .inl (hcl k hk j hj)
   ·
    exact .inl (hp j hj)
  ·
   have : (fun j => (listed.setIfInBounds r.i true)[j]? = some true) = fun j => listed[j]? = some true ∨ j = r.i := funext fun j => propext (hset j)
   rw [this]; exact hI2
end
theorem jNE (hm : P.follows .mixedOrders = true) {n : Nat} {call : FuncId → List AV → AS → Option (TV × AS)} (hc : jBe P call) {ops : Array Oper} (hnd : nodup (dstsOf ops.toList) = true)
  (hb : jAM 0 ops.toList = true) {T : Tm} {st : AS} {R : List RS} {nx : Nat} (hs : jJf P n call ops.toList (zN ops.toList) T st.heap st.next 0 ops.toList [] st.next = some (R, nx))
  {D : List Deferred} {π : Pi} {a : Act} {w : World} (h : Sit n D π st T a w) {id : Nat} {Q : Exit → Act → World → Prop}
  (hQ : ∀ π' a' w', Sit n D π' { heap := jCL st.heap (full ops.size) R, next := nx, wr := jEI st.wr (jFF st.next R) } (jEO T (full ops.size) R) a' w' →
   Tr π st w π' { heap := jCL st.heap (full ops.size) R, next := nx, wr := jEI st.wr (jFF st.next R) } w' → Q .normal a' w') : (Code.region id ops true).wp P Q a w := by
 have hch := jHr ops.toList 0 [] st.next hs (by simp) (by simp) Chain.nil
 rw [Array.length_toList] at hch
 have hA := hch.all
 have hh0 : ∀ b k, hget st.heap b = some k → b < st.next ∧ k.cells.all (SV.all (below st.next)) = true := fun b k hg => ⟨(h.heap.blk b k hg).1, (h.heap.blk b k hg).2.2⟩
 have hT0 : ∀ t v, tget T t = some v → v.all (below st.next) = true := fun t v hv => (h.tmps t v hv).2
 refine wp_region_any hm ?_
 rw [World.drew_eq]
 have hrep : ∀ j : Nat, ¬ ((Array.replicate ops.size false)[j]? = some true) := fun j hj => by
  rw [Array.getElem?_replicate] at hj
  split at hj <;> simp at hj
 have hF0 : ∀ b k, Fact st.heap (zN ops.toList) R (fun j => (Array.replicate ops.size false)[j]? = some true) b k → hget st.heap b = some k := fun b k hf => by
  rcases hf with ⟨h1, -⟩ | ⟨r, -, hS, -⟩
  ·
   exact h1
  ·
   exact absurd hS (hrep r.i)
 refine jQn hA hb hnd hc (π := π) (w := w.drew) (sz := a.tmps.size) (D := D) h.size hh0 hT0 ?_ ops.size (Array.replicate ops.size false) π a w.drew (by simp) (by
   have := List.countP_le_length (p := fun b => !b) (l := (Array.replicate ops.size false).toList)
   simpa using this) (fun i hi => absurd hi (hrep i)) ?_
 ·
  intro π' a' w' hI
  have hltR : ∀ q ∈ R, q.i < ops.size := hA.lt
  have hfact : ∀ b k, hget (jCL st.heap (full ops.size) R) b = some k → Fact st.heap (zN ops.toList) R (fun j => j < ops.size) b k := fun b k hg => by
   rcases jBQ hA.desc hg with ⟨h1, h2⟩ | ⟨x, hx, hxm, h1, h2⟩
   ·
    exact .inl ⟨h1, fun q hq _ => h2 q hq⟩
   ·
    refine .inr ⟨x, hx, hltR x hx, h1, fun q hq _ hw => ?_⟩
    rcases Nat.lt_trichotomy q.i x.i with hlt | heq | hgt
    ·
     exact .inr (later hA hx hq hlt h1 hw)
    ·
     exact .inl heq
    ·
     exact absurd hw (h2 q hq hgt)
  have hmw : ∀ b, b < st.next → (b ∈ jEI st.wr (jFF st.next R) ↔ b ∈ st.wr ∨ Wrote R (fun j => j < ops.size) b) := fun b hlt => by
   rw [jCY]
   have : b ∈ jFF st.next R ↔ Wrote R (fun j => j < ops.size) b := by
    have : ∀ l : List RS, b ∈ jFF st.next l ↔ ∃ q ∈ l, b ∈ q.wr := by
     intro l
     induction l with
     | nil => simp [jFF]
     | cons q t ih => rw [jFF, List.mem_append, jBZ, ih]; simp [hlt]
    rw [this]
    exact ⟨fun ⟨q, hq, hw⟩ => ⟨q, hq, hltR q hq, hw⟩, fun ⟨q, hq, _, hw⟩ => ⟨q, hq, hw⟩⟩
   rw [this]
  have hkey : ∀ b k, hget (jCL st.heap (full ops.size) R) b = some k → b < nx ∧ k.cells.all (SV.all (below nx)) = true := fun b k hg => by
   rcases jBQ hA.desc hg with ⟨h1, -⟩ | ⟨x, hx, -, h1, -⟩
   ·
    have := hA.le
    obtain ⟨h2, h3⟩ := hh0 b k h1
    exact ⟨by omega, SVs.vK (zK this) h3⟩
   ·
    obtain ⟨tx, stx, ox, htx, hmx, -⟩ := hA.told x hx
    have h2 := hA.low x hx
    obtain ⟨h3, h4⟩ := htx.cells b k h1
    exact ⟨by omega, SVs.vK (fun c hcc => by have := jDm hA hx hmx c hcc; rw [jw]; omega) h4⟩
  refine hQ π' a' w' ⟨⟨?_, ?_⟩, ?_, by rw [hI.sz]; exact h.size, hI.defers⟩ ?_
  ·
   intro b k hg
   exact ⟨(hkey b k hg).1, hI.blk b k (hfact b k hg), (hkey b k hg).2⟩
  ·
   intro b b' k k' hg hg' e
   exact hI.inj b b' k k' (hfact b k hg) (hfact b' k' hg') e
  ·
   intro c v hv
   rcases jEa (fun r hr => jHU (hltR r hr)) hv with ⟨h1, h2⟩ | ⟨r, hr, hrd, rfl⟩
   ·
    exact ⟨hI.t1 c v h1 fun r hr _ => h2 r hr, TV.vK (zK hA.le) (hT0 c v h1)⟩
   ·
    obtain ⟨tx, stx, ox, htx, hmx, -⟩ := hA.told r hr
    have h2 := hA.low r hr
    exact ⟨hI.t2 r hr (hltR r hr) c hrd, TV.vK (fun c hcc => by have := jDm hA hr hmx c hcc; rw [jw]; show c < nx; omega) htx.v⟩
  ·
   exact {
    next := hA.le
    mu := hI.mu
    os := hI.os
    tape := hI.tape
    output := hI.output
    size := hI.size
    wr := fun b hb => jCY.2 (.inl hb)
    same := fun b hlt hnw => by
     have hnw' := fun x => hnw ((hmw b hlt).2 x)
     refine jEb fun q hq => ?_
     have h1 : b ∉ q.wr := fun hw => hnw' (.inr ⟨q, hq, hltR q hq, hw⟩)
     refine ⟨h1, ?_⟩
     cases hg : hget q.blks b with
     | none => rfl
     | some k =>
      have h2 := hA.low q hq
      rcases jDN hA hq hg with h3 | h3
      ·
       omega
      ·
       exact absurd h3 h1
    old := fun b k' hlt hg => hI.old b k' (hfact b k' hg) hlt
    frame := fun r hr hcond => hI.frame r hr fun b k hg hw => hcond b k hg ((hmw b (hh0 b k hg).1).2 (.inr hw))
    fresh := fun b k hg hge => (hI.fresh b k (hfact b k hg) hge).imp (fun h => h) fun ⟨b0, k0, h1, h2, h3⟩ => ⟨b0, k0, h1, (hmw b0 (hh0 b0 k0 h1).1).2 (.inr h2), h3⟩ }
 ·
  exact {
   mu := Agree.refl _ _
   os := rfl
   tape := rfl
   output := rfl
   size := Nat.le_refl _
   t1 := fun t v hv _ => (h.tmps t v hv).1
   t2 := fun r _ hS => absurd hS (hrep r.i)
   sz := rfl
   defers := h.defers
   blk := fun b k hf => (h.heap.drew.blk b k (hF0 b k hf)).2.1
   inj := fun b b' k k' hf hf' e => h.heap.inj b b' k k' (hF0 b k hf) (hF0 b' k' hf') e
   old := fun b k hf _ => ⟨k, hF0 b k hf⟩
   frame := fun _ _ _ => rfl
   fresh := fun b k hf hge => absurd (hh0 b k (hF0 b k hf)).1 (Nat.not_lt.2 hge) }
end Go.Ev
namespace Go.Ev
variable {P : Program}
def exOf : Ex → Exit
 | .normal => .normal
 | .exit id => .exit id
 | .ret => .ret
def Ends (n : Nat) (D : List Deferred) (π : Pi) (st : AS) (w : World) (e : Ex) (T' : Tm) (st' : AS) : Exit → Act → World → Prop :=
 fun e' a' w' => e' = exOf e ∧ ∃ π', Sit n D π' st' T' a' w' ∧ Tr π st w π' st' w'
theorem Ends.trans {n : Nat} {D : List Deferred} {π π' : Pi} {st st' st'' : AS} {w w' : World} {e : Ex} {T'' : Tm} (h : Tr π st w π' st' w') {e' : Exit} {a' : Act} {w'' : World}
  (g : Ends n D π' st' w' e T'' st'' e' a' w'') : Ends n D π st w e T'' st'' e' a' w'' := by
 obtain ⟨h1, π'', h2, h3⟩ := g
 exact ⟨h1, π'', h2, h.trans h3⟩
section
variable (hm : P.follows .mixedOrders = true) {n N : Nat} {D : List Deferred} {call : FuncId → List AV → AS → Option (TV × AS)} (hc : jBe P call)
include hm hc
theorem jJd {ops : Array Oper} {draw : Bool} {T T' : Tm} {st st' : AS} (hs : jHm P n call ops.toList draw T st = some (T', st')) {π : Pi} {a : Act} {w : World} (h : Sit n D π st T a w) {id : Nat} :
  (Code.region id ops draw).wp P (Ends n D π st w .normal T' st') a w := by
 cases draw with
 | false =>
  refine wp_region ?_
  have := jLd (P := P) hc (ops := ops) (Q := Ends n D π st w .normal T' st') [] ops.toList 0 T st π a w (by simp) hs h (fun π' a' w' h1 h2 => ⟨rfl, π', h1, h2⟩)
  rwa [List.append_nil, Array.length_toList, ← List.range_eq_range'] at this
 | true =>
  rw [jHm, cond_true, Bool.cond_eq_ite] at hs
  split at hs
  ·
   rename_i hcc
   rw [Bool.and_eq_true] at hcc
   split at hs
   ·
    rename_i R nx hd
    simp only [Option.some.injEq, Prod.mk.injEq] at hs
    obtain ⟨rfl, rfl⟩ := hs
    rw [Array.length_toList]
    exact jNE hm hc hcc.1 hcc.2 hd h fun π' a' w' h1 h2 => ⟨rfl, π', h1, h2⟩
   ·
    simp at hs
  ·
   simp at hs
theorem jIl : ∀ (c : Code) (T : Tm) (st : AS) (e : Ex) (T' : Tm) (st' : AS), jAY P n N call c T st = some (e, T', st') → ∀ (π : Pi) (a : Act) (w : World), Sit n D π st T a w →
  c.wp P (Ends n D π st w e T' st') a w := by
 intro c
 induction c with
 | skip =>
  intro T st e T' st' h π a w hS
  simp only [jAY, Option.some.injEq, Prod.mk.injEq] at h
  obtain ⟨rfl, rfl, rfl⟩ := h
  exact wp_skip ⟨rfl, π, hS, Tr.refl hS.heap⟩
 | ret =>
  intro T st e T' st' h π a w hS
  simp only [jAY, Option.some.injEq, Prod.mk.injEq] at h
  obtain ⟨rfl, rfl, rfl⟩ := h
  exact wp_ret ⟨rfl, π, hS, Tr.refl hS.heap⟩
 | exit id =>
  intro T st e T' st' h π a w hS
  simp only [jAY, Option.some.injEq, Prod.mk.injEq] at h
  obtain ⟨rfl, rfl, rfl⟩ := h
  exact wp_exit ⟨rfl, π, hS, Tr.refl hS.heap⟩
 | region id ops draw =>
  intro T st e T' st' h π a w hS
  simp only [jAY, Option.map_eq_some_iff, Prod.mk.injEq] at h
  obtain ⟨⟨T1, st1⟩, h1, rfl, rfl, rfl⟩ := h
  exact jJd hm hc h1 hS
 | seq x y ihx ihy =>
  intro T st e T' st' h π a w hS
  simp only [jAY] at h
  refine wp_seq ?_
  split at h
  ·
   rename_i T1 st1 h1
   refine wp_mono (ihx T st .normal T1 st1 h1 π a w hS) fun e' a' w' hq => ?_
   obtain ⟨rfl, π', h2, h3⟩ := hq
   exact wp_mono (ihy T1 st1 e T' st' h π' a' w' h2) fun e' a' w' hq => hq.trans h3
  ·
   rename_i h1
   refine wp_mono (ihx T st e T' st' h π a w hS) fun e' a' w' hq => ?_
   have hne : e ≠ .normal := fun he => by subst he; exact h1 T' st' h
   obtain ⟨rfl, hq⟩ := hq
   cases e with
   | normal => exact absurd rfl hne
   | exit id => exact ⟨rfl, hq⟩
   | ret => exact ⟨rfl, hq⟩
 | cond c x y ihx ihy =>
  intro T st e T' st' h π a w hS
  simp only [jAY] at h
  split at h
  ·
   rename_i hcc
   exact wp_cond_true (ji hS.tmps hcc).1 (ihx T st e T' st' h π a w hS)
  ·
   rename_i hcc
   exact wp_cond_false (ji hS.tmps hcc).1 (ihy T st e T' st' h π a w hS)
  ·
   simp at h
 | block id x ih =>
  intro T st e T' st' h π a w hS
  simp only [jAY] at h
  refine wp_block ?_
  split at h
  ·
   rename_i id' T1 st1 h1
   simp only [jAI] at h
   refine wp_mono (ih T st _ T1 st1 h1 π a w hS) fun e' a' w' hq => ?_
   obtain ⟨rfl, hq⟩ := hq
   split at h
   ·
    rename_i he
    simp only [Option.some.injEq, Prod.mk.injEq] at h
    obtain ⟨rfl, rfl, rfl⟩ := h
    show (if id' = id then _ else _)
    rw [if_pos he]; exact ⟨rfl, hq⟩
   ·
    rename_i he
    simp only [Option.some.injEq, Prod.mk.injEq] at h
    obtain ⟨rfl, rfl, rfl⟩ := h
    show (if id' = id then _ else _)
    rw [if_neg he]; exact ⟨rfl, hq⟩
  ·
   rename_i h1
   refine wp_mono (ih T st e T' st' h π a w hS) fun e' a' w' hq => ?_
   obtain ⟨rfl, hq⟩ := hq
   cases e with
   | normal => exact ⟨rfl, hq⟩
   | exit id' => exact absurd h (h1 id' T' st')
   | ret => exact ⟨rfl, hq⟩
 | loop x ih =>
  intro T st e T' st' h π a w hS
  simp only [jAY] at h
  refine wp_loop_rounds N ?_
  have key : ∀ k T1 st1 π1 a1 w1, Sit n D π1 st1 T1 a1 w1 → Tr π st w π1 st1 w1 → jLg (jAY P n N call x) k T1 st1 = some (e, T', st') → Code.rounds P x (Ends n D π st w e T' st') k a1 w1 := by
   intro k
   induction k with
   | zero => intro T1 st1 π1 a1 w1 _ _ h; simp [jLg] at h
   | succ k ihk =>
    intro T1 st1 π1 a1 w1 hS1 htr h
    simp only [jLg] at h
    rw [rounds_succ]
    split at h
    ·
     rename_i T2 st2 h1
     refine wp_mono (ih T1 st1 .normal T2 st2 h1 π1 a1 w1 hS1) fun e' a' w' hq => ?_
     obtain ⟨rfl, π', h2, h3⟩ := hq
     exact ihk T2 st2 π' a' w' h2 (htr.trans h3) h
    ·
     rename_i h1
     refine wp_mono (ih T1 st1 e T' st' h π1 a1 w1 hS1) fun e' a' w' hq => ?_
     have hne : e ≠ .normal := fun he => by subst he; exact h1 T' st' h
     obtain ⟨rfl, hq2⟩ := hq.trans htr
     cases e with
     | normal => exact absurd rfl hne
     | exit id => exact ⟨rfl, hq2⟩
     | ret => exact ⟨rfl, hq2⟩
  exact key N T st π a w hS (Tr.refl hS.heap) h
 | rangeFunc f ps x y _ _ => intro T st e T' st' h; simp [jAY] at h
 | scope x _ => intro T st e T' st' h; simp [jAY] at h
 | label l => intro T st e T' st' h; simp [jAY] at h
 | goto l => intro T st e T' st' h; simp [jAY] at h
 | refuse why => intro T st e T' st' h; simp [jAY] at h
end
theorem jGp : ∀ (args : List AV) (i t : Nat) (v : TV), tget (jJc i args) t = some v → i ≤ t ∧ ∃ x, args[t - i]? = some x ∧ v = .av x
 | [], i, t, v, h => by simp [jJc, tget] at h
 | x :: l, i, t, v, h => by
  rw [jJc, jBS] at h
  split at h
  ·
   rename_i e; subst e
   simp only [Option.some.injEq] at h; subst h
   exact ⟨Nat.le_refl _, x, by simp, rfl⟩
  ·
   obtain ⟨h1, y, h2, h3⟩ := jGp l (i + 1) t v h
   refine ⟨by omega, y, ?_, h3⟩
   rw [show t - i = (t - (i + 1)) + 1 by omega, List.getElem?_cons_succ]; exact h2
theorem jCA {π : Pi} {st : AS} {w : World} (h : HRel π st w) {T : Tm} {a : Act} (hT : TRel π st.next T a.tmps) : ∀ {l : List ResultVar} {vs : List AV}, jGE P st T l = some vs →
  (l.mapM fun | .tmp t => pure (a.tmps.getD t undef) | .cell x t => do loadVar t (← asAddr (a.tmps.getD x undef)) : Sem (List Value)).run P w = .ok (vs.map (AV.conc π)) w ∧
  vs.all (AV.all (below st.next)) = true
 | [], vs, hr => by simp only [jGE, Option.some.injEq] at hr; subst hr; exact ⟨by simp, rfl⟩
 | .tmp t :: rest, vs, hr => by
  simp only [jGE] at hr
  split at hr
  ·
   rename_i v l h1 h2
   simp only [Option.some.injEq] at hr; subst hr
   obtain ⟨g1, g2⟩ := hT t _ h1
   obtain ⟨g3, g4⟩ := jCA h hT h2
   refine ⟨?_, by rw [List.all_cons, g4, Bool.and_true]; exact g2⟩
   rw [List.mapM_cons]
   simp only [Sem.run_bind, Sem.run_pure, Result.andThen_ok, g3, List.map_cons]
   simp [g1, TV.conc]
  ·
   simp at hr
 | .cell x t :: rest, vs, hr => by
  simp only [jGE] at hr
  split at hr
  ·
   rename_i p l h1 h2
   split at hr
   ·
    rename_i v h3
    simp only [Option.some.injEq] at hr; subst hr
    obtain ⟨g1, -⟩ := hT x _ h1
    obtain ⟨g3, g4⟩ := jCA h hT h2
    obtain ⟨g5, g6⟩ := jEG h h3
    refine ⟨?_, by rw [List.all_cons, g4, Bool.and_true]; exact g6⟩
    have hp : ∃ b off, p = .ptr b off := by
     unfold jLh at h3
     split at h3
     ·
      exact ⟨_, _, rfl⟩
     ·
      simp at h3
    obtain ⟨b, off, rfl⟩ := hp
    have g7 : (loadVar t ⟨π.mu b, off, none⟩).run P w = .ok (v.conc π) w := by
     simpa [Instr.loadAt, SV.conc, Instr.sureAddr, TV.conc] using g5
    have hcell : (do loadVar t (← asAddr (a.tmps.getD x undef)) : Sem Value).run P w = .ok (v.conc π) w := by
     have e1 : a.tmps.getD x undef = .pointer (some ⟨π.mu b, off, none⟩) := by simp [g1, TV.conc, AV.za, SV.conc]
     rw [e1, Sem.run_bind]; exact g7
    rw [List.mapM_cons]
    erw [Sem.run_bind, hcell]
    rw [Result.andThen_ok, Sem.run_bind, g3]
    rfl
   ·
    simp at hr
  ·
   simp at hr
theorem jHK {fn : Func} {π : Pi} {st : AS} {w : World} (h : HRel π st w) {T : Tm} {a : Act} (hT : TRel π st.next T a.tmps) {vs : List AV} (hr : jGE P st T fn.results.toList = some vs) :
  (results fn a.tmps).run P w = .ok ((tvOf vs).conc π) w := by
 obtain ⟨g, -⟩ := jCA h hT hr
 have hmap : (fn.results.mapM fun | .tmp t => pure (a.tmps.getD t undef) | .cell x t => do loadVar t (← asAddr (a.tmps.getD x undef)) : Sem (Array Value)).run P w = .ok (vs.map (AV.conc π)).toArray w := by
  rw [Array.mapM_eq_mapM_toList, Sem.run_map, g]; rfl
 unfold results
 rw [Sem.run_bind]
 erw [hmap]
 simp only [Result.andThen_ok, Sem.run_pure]
 congr 1
 match vs with
 | [] => rfl
 | [x] => simp [tvOf, TV.conc]
 | x :: y :: l => simp [tvOf, TV.conc]
def jEB (π : Pi) (D : List (FuncId × List AV)) : List Deferred := D.map fun q => { target := .fn (.func q.1) #[], args := (q.2.map (AV.conc π)).toArray }
def DOk (n : Nat) (D : List (FuncId × List AV)) : Prop := ∀ q ∈ D, q.2.all (AV.all (below n)) = true
theorem jCF {n : Nat} {π π' : Pi} (h : Agree (below n) π π') {D : List (FuncId × List AV)} (hD : DOk n D) : jEB π' D = jEB π D := by
 unfold jEB
 refine List.map_congr_left fun q hq => ?_
 rw [List.map_congr_left fun v hv => AV.agree h (List.all_eq_true.1 (hD q hq) v hv)]
theorem DOk.mono {n m : Nat} (h : n ≤ m) {D : List (FuncId × List AV)} (hD : DOk n D) : DOk m D := fun q hq =>
 List.all_eq_true.2 fun v hv => AV.vK (zK h) (List.all_eq_true.1 (hD q hq) v hv)
def jHy (n : Nat) (π : Pi) (st : AS) (w : World) (e : Ex) (T' : Tm) (st' : AS) (D' : List (FuncId × List AV)) : Exit → Act → World → Prop :=
 fun e' a' w' => e' = exOf e ∧ ∃ π', Sit n (jEB π' D') π' st' T' a' w' ∧ Tr π st w π' st' w' ∧ DOk st'.next D'
theorem jHy.of {n : Nat} {π : Pi} {st : AS} {w : World} {e : Ex} {T' : Tm} {st' : AS} {D : List (FuncId × List AV)} (hD : DOk st.next D) {e' : Exit} {a' : Act} {w' : World}
  (h : Ends n (jEB π D) π st w e T' st' e' a' w') : jHy n π st w e T' st' D e' a' w' := by
 obtain ⟨h1, π', h2, h3⟩ := h
 exact ⟨h1, π', by rw [jCF h3.mu hD]; exact h2, h3, hD.mono h3.next⟩
theorem jLp (hm : P.follows .mixedOrders = true) {n N : Nat} {call : FuncId → List AV → AS → Option (TV × AS)} (hc : jBe P call) :
  ∀ (c : Code) (T : Tm) (st : AS) (D : List (FuncId × List AV)) (e : Ex) (T' : Tm) (st' : AS) (D' : List (FuncId × List AV)), jDE P n N call c T st D = some (e, T', st', D') →
  ∀ (π : Pi) (a : Act) (w : World), Sit n (jEB π D) π st T a w → DOk st.next D → c.wp P (jHy n π st w e T' st' D') a w := by
 intro c
 have plain : ∀ (c : Code), (∀ T st D, jDE P n N call c T st D = (jAY P n N call c T st).map fun r => (r.1, r.2.1, r.2.2, D)) →
   ∀ (T : Tm) (st : AS) (D : List (FuncId × List AV)) (e : Ex) (T' : Tm) (st' : AS) (D' : List (FuncId × List AV)), jDE P n N call c T st D = some (e, T', st', D') →
   ∀ (π : Pi) (a : Act) (w : World), Sit n (jEB π D) π st T a w → DOk st.next D → c.wp P (jHy n π st w e T' st' D') a w := by
  intro c hcc T st D e T' st' D' h π a w hS hD
  rw [hcc, Option.map_eq_some_iff] at h
  obtain ⟨⟨e1, T1, st1⟩, h1, h2⟩ := h
  simp only [Prod.mk.injEq] at h2
  obtain ⟨rfl, rfl, rfl, rfl⟩ := h2
  exact wp_mono (jIl hm hc c T st e1 T1 st1 h1 π a w hS) fun e' a' w' hq => jHy.of hD hq
 induction c with
 | seq x y ihx ihy =>
  intro T st D e T' st' D' h π a w hS hD
  simp only [jDE] at h
  refine wp_seq ?_
  split at h
  ·
   rename_i T1 st1 D1 h1
   refine wp_mono (ihx T st D .normal T1 st1 D1 h1 π a w hS hD) fun e' a' w' hq => ?_
   obtain ⟨rfl, π', h2, h3, h4⟩ := hq
   refine wp_mono (ihy T1 st1 D1 e T' st' D' h π' a' w' h2 h4) fun e' a' w' hq => ?_
   obtain ⟨g1, π2, g2, g3, g4⟩ := hq
   exact ⟨g1, π2, g2, h3.trans g3, g4⟩
  ·
   rename_i h1
   refine wp_mono (ihx T st D e T' st' D' h π a w hS hD) fun e' a' w' hq => ?_
   have hne : e ≠ .normal := fun he => by subst he; exact h1 T' st' D' h
   obtain ⟨rfl, hq⟩ := hq
   cases e with
   | normal => exact absurd rfl hne
   | exit id => exact ⟨rfl, hq⟩
   | ret => exact ⟨rfl, hq⟩
 | region id ops draw =>
  intro T st D e T' st' D' h π a w hS hD
  rw [jDE] at h
  split at h
  ·
   rename_i c type pos after hlast
   split at h
   ·
    rename_i f hcal
    split at h
    ·
     rename_i T1 st1 hseq
     rw [Option.map_eq_some_iff] at h
     obtain ⟨l, hl, h2⟩ := h
     simp only [Prod.mk.injEq] at h2
     obtain ⟨rfl, rfl, rfl, rfl⟩ := h2
     have hne : ops.toList ≠ [] := fun e => by rw [e] at hlast; simp at hlast
     have hlen : ops.size = ops.toList.dropLast.length + 1 := by
      have := List.length_pos_iff.2 hne
      rw [List.length_dropLast, Array.length_toList] at *
      omega
     have hlo : ops[ops.toList.dropLast.length]? = some ⟨none, .defer c, type, pos, after, none⟩ := by
      rw [List.getLast?_eq_getElem?] at hlast
      rw [← Array.getElem?_toList, List.length_dropLast]
      exact hlast
     refine wp_region ?_
     rw [List.range_eq_range', hlen, List.range'_1_concat, Nat.zero_add]
     refine jLd (P := P) hc (ops := ops) [ops.toList.dropLast.length] ops.toList.dropLast 0 T st π a w (fun j hj => ?_) hseq hS fun π' a' w' hS' htr => ?_
     ·
      rw [Nat.zero_add, ← Array.getElem?_toList, List.getElem?_dropLast, if_pos (by rw [List.length_dropLast] at hj; exact hj)]
     ·
      obtain ⟨g1, g2⟩ := jFE hS'.tmps hl
      have eargs : c.args.map a'.eval = (l.map (AV.conc π')).toArray := by
       apply Array.toList_inj.1
       rw [Array.toList_map]; exact g1
      rw [wpOps_cons]
      unfold wpOp
      simp only [hlo, Region.wanted, if_true]
      refine .inl ?_
      unfold Oper.wp
      have hrun : (execOp a'.eval ⟨none, .defer c, type, pos, after, none⟩).run P w' = .ok (.defer { target := .fn (.func f) #[], args := (l.map (AV.conc π')).toArray }) w' := by
       obtain ⟨callee, args, argTypes⟩ := c
       simp only at hcal; subst hcal
       simp only at eargs
       simp [execOp, resolve, Act.eval, Deferred.ofValue, eargs]
      rw [hrun, Oper.upon_defer]
      show jHy n π st w .normal T1 st1 ((f, l) :: D) .normal { a' with defers := _ :: a'.defers } w'
      refine ⟨rfl, π', ⟨hS'.heap, hS'.tmps, hS'.size, ?_⟩, htr, ?_⟩
      ·
       show _ :: a'.defers = _
       rw [hS'.defers, ← jCF htr.mu hD]; rfl
      ·
       intro q hq
       rw [List.mem_cons] at hq
       rcases hq with rfl | hq
       ·
        exact g2
       ·
        exact hD.mono htr.next q hq
    ·
     simp at h
   ·
    simp at h
  ·
   rw [Option.map_eq_some_iff] at h
   obtain ⟨⟨e1, T1, st1⟩, h1, h2⟩ := h
   simp only [Prod.mk.injEq] at h2
   obtain ⟨rfl, rfl, rfl, rfl⟩ := h2
   exact wp_mono (jIl hm hc _ T st e1 T1 st1 h1 π a w hS) fun e' a' w' hq => jHy.of hD hq
 | _ => exact plain _ (fun _ _ _ => rfl)
def jHz (P : Program) (dcall : FuncId → List AV → AS → Option AS) : Prop :=
 ∀ f args st st', dcall f args st = some st' → ∀ π w, HRel π st w → args.all (AV.all (below st.next)) = true →
  (∃ fn c, P.funcs[f]? = some fn ∧ fn.body = some c ∧ (fn.name == "runtime.NumGoroutine") = false) ∧
  CallsD P f (args.map (AV.conc π)).toArray .returning w fun e u' w' => (∃ v, e = .returned v) ∧ u' = .returning ∧ ∃ π', HRel π' st' w' ∧ Tr π st w π' st' w'
theorem jEV {dcall : FuncId → List AV → AS → Option AS} (hd : jHz P dcall) {fn : Func} {tmps : Array Value} {R : Ending → World → Prop} :
  ∀ (D : List (FuncId × List AV)) (st st' : AS), jEH dcall D st = some st' → ∀ (π : Pi) (w : World), HRel π st w → DOk st.next D →
  (∀ π' w', HRel π' st' w' → Tr π st w π' st' w' → Leaves P fn tmps R [] .returning w') → Leaves P fn tmps R (jEB π D) .returning w := by
 intro D
 induction D with
 | nil =>
  intro st st' h π w hH _ hK
  simp only [jEH, Option.some.injEq] at h; subst h
  exact hK π w hH (Tr.refl hH)
 | cons q D ih =>
  obtain ⟨f, l⟩ := q
  intro st st' h π w hH hD hK
  simp only [jEH] at h
  split at h
  ·
   rename_i st1 h1
   have hl := hD (f, l) (List.mem_cons_self ..)
   obtain ⟨⟨fn', c, hf, hb, hn⟩, hcall⟩ := hd f l st st1 h1 π w hH hl
   have hn' : fn'.name ≠ "runtime.NumGoroutine" := by simpa using hn
   show Leaves P fn tmps R ({ target := .fn (.func f) #[], args := (l.map (AV.conc π)).toArray } :: jEB π D) .returning w
   refine leaves_cons (f := f) (args := (l.map (AV.conc π)).toArray) (by simp) (by simp [invoke, callFunc, hf, hb, hn']) ?_
   refine CallsD.mono hcall fun e u' w' he => ?_
   obtain ⟨⟨v, rfl⟩, rfl, π', h2, h3⟩ := he
   show Leaves P fn tmps R (jEB π D) (settle .returning) w'
   have hD' : DOk st.next D := fun q hq => hD q (List.mem_cons_of_mem _ hq)
   rw [← jCF h3.mu hD']
   exact ih st1 st' h π' w' h2 (hD'.mono h3.next) fun π2 w2 g1 g2 => hK π2 w2 g1 (h3.trans g2)
  ·
   simp at h
theorem jNF (hm : P.follows .mixedOrders = true) (N : Nat) {ext : FuncId → List AV → AS → Option (TV × AS)} (hext : jBe P ext) {dcall : FuncId → List AV → AS → Option AS} (hdc : jHz P dcall) :
  ∀ k, jBe P (jLq P N ext dcall k) := by
 intro k
 induction k with
 | zero => intro f args st v st' h; simp [jLq] at h
 | succ k ih =>
  intro f args st v st' h π w hH hargs
  simp only [jLq] at h
  split at h
  ·
   rename_i r hr
   simp only [Option.some.injEq] at h; subst h
   exact hext f args st v st' hr π w hH hargs
  split at h
  ·
   simp at h
  ·
   rename_i fn hf
   split at h
   ·
    simp at h
   ·
    rename_i c hb
    simp only [Bool.cond_eq_ite, Bool.and_eq_true, Nat.ble_eq, Bool.not_eq_true'] at h
    split at h
    ·
     rename_i hcc
     refine .inl ⟨⟨fn, c, hf, hb, hcc.2⟩, ?_⟩
     split at h
     ·
      rename_i e T st1 D hcode
      split at h
      ·
       rename_i hex
       split at h
       ·
        rename_i st2 hdef
        split at h
        ·
         rename_i vs hres
         refine calls_of_wp_defers hf hb ?_
         have hS : Sit fn.ntmps (jEB π []) π { heap := st.heap, next := st.next, wr := [] } (jJc 0 args)
           { tmps := (args.map (AV.conc π)).toArray ++ Array.replicate (fn.ntmps - (args.map (AV.conc π)).toArray.size) undef, defers := [] } w := {
          heap := hH.sub (fun _ _ h => h) (Nat.le_refl _)
          tmps := fun t u hu => by
           obtain ⟨-, x, h1, rfl⟩ := jGp args 0 t u hu
           rw [Nat.sub_zero] at h1
           have hlt := (List.getElem?_eq_some_iff.1 h1).1
           refine ⟨?_, List.all_eq_true.1 hargs x (List.mem_of_getElem? h1)⟩
           rw [Array.getElem?_append_left (by simpa using hlt)]
           simp [h1, TV.conc]
          size := by simp; omega
          defers := rfl }
         refine wp_mono (jLp hm ih c _ _ [] e T st1 D hcode π _ w hS (by intro q hq; simp at hq)) fun e' a' w' hq => ?_
         obtain ⟨rfl, π1, hS1, htr1, hD1⟩ := hq
         have hleave : Leaves P fn a'.tmps (fun e w' => ∃ π', e = .returned (v.conc π') ∧ HRel π' st' w' ∧ Tr π st w π' st' w') a'.defers .returning w' := by
          rw [hS1.defers]
          refine jEV hdc D st1 st2 hdef π1 w' hS1.heap hD1 fun π2 w2 hH2 htr2 => ?_
          have htr := htr1.trans htr2
          have hT2 := hS1.tmps.agree htr2.mu htr2.next
          have hrun := jHK (a := { tmps := a'.tmps, defers := [] }) hH2 hT2 hres
          refine ⟨_, hrun, ?_⟩
          have back : v = tvOf vs ∧ HRel π2 st' w2 ∧ Tr π st w π2 st' w2 := by
           split at h
           ·
            rename_i hwr
            simp only [Option.some.injEq, Prod.mk.injEq] at h
            obtain ⟨rfl, rfl⟩ := h
            have hnw : ∀ b, b < st.next → b ∉ st2.wr := fun b hlt hw => by
             have := jBZ.2 ⟨hw, hlt⟩
             rw [hwr] at this; simp at this
            have hsub : ∀ b k', hget (keep st.next (jDg st2.heap st.next 1000 (idsV (tvOf vs)) []) st2.heap ++ st.heap) b = some k' → hget st2.heap b = some k' := fun b k' hb => by
             rw [jBF] at hb
             cases hg : hget (keep st.next (jDg st2.heap st.next 1000 (idsV (tvOf vs)) []) st2.heap) b with
             | some k1 =>
              rw [hg] at hb
              simp only [Option.some_or, Option.some.injEq] at hb; subst hb
              exact (jGb hg).1
             | none =>
              rw [hg] at hb
              simp only [Option.none_or] at hb
              have hlt := (hH.blk b k' hb).1
              exact (htr.same b hlt (hnw b hlt)).trans hb
            refine ⟨rfl, hH2.sub hsub (Nat.le_refl _), ?_⟩
            exact {
             next := htr.next
             mu := htr.mu
             os := htr.os
             tape := htr.tape
             output := htr.output
             size := htr.size
             wr := fun b hb => hb
             same := fun b hlt _ => by
              show hget (_ ++ st.heap) b = _
              rw [jBF]
              cases hg : hget (keep st.next (jDg st2.heap st.next 1000 (idsV (tvOf vs)) []) st2.heap) b with
              | some k1 => have := (jGb hg).2; omega
              | none => simp
             old := fun b k' hlt hb => htr.old b k' hlt (hsub b k' hb)
             frame := fun r hr _ => htr.frame r hr fun b k' hb hw => absurd hw (hnw b (hH.blk b k' hb).1)
             fresh := fun b k' hb hge => (htr.fresh b k' (hsub b k' hb) hge).imp (fun h => h) fun ⟨b0, k0, h1, h2, h3⟩ => absurd h2 (hnw b0 (hH.blk b0 k0 h1).1) }
           ·
            simp only [Option.some.injEq, Prod.mk.injEq] at h
            obtain ⟨rfl, rfl⟩ := h
            have hmw : ∀ b, b < st.next → (b ∈ jEI st.wr (older st.next st2.wr) ↔ b ∈ st.wr ∨ b ∈ st2.wr) := fun b hlt => by
             rw [jCY, jBZ]
             constructor
             ·
              rintro (h | h); exact .inl h; exact .inr h.1
             ·
              rintro (h | h); exact .inl h; exact .inr ⟨h, hlt⟩
            refine ⟨rfl, hH2.sub (fun _ _ h => h) (Nat.le_refl _), ?_⟩
            exact {
             next := htr.next
             mu := htr.mu
             os := htr.os
             tape := htr.tape
             output := htr.output
             size := htr.size
             wr := fun b hb => jCY.2 (.inl hb)
             same := fun b hlt hn => htr.same b hlt fun hw => hn ((hmw b hlt).2 (.inr hw))
             old := htr.old
             frame := fun r hr hcond => htr.frame r hr fun b k' hb hw => hcond b k' hb ((hmw b (hH.blk b k' hb).1).2 (.inr hw))
             fresh := fun b k' hb hge => (htr.fresh b k' hb hge).imp (fun h => h) fun ⟨b0, k0, h1, h2, h3⟩ => ⟨b0, k0, h1, (hmw b0 (hH.blk b0 k0 h1).1).2 (.inr h2), h3⟩ }
          obtain ⟨rfl, g1, g2⟩ := back
          exact ⟨π2, rfl, g1, g2⟩
         cases e with
         | normal => exact hleave
         | ret => exact hleave
         | exit id => exact absurd hex (by simp [done])
        ·
         simp at h
       ·
        simp at h
      ·
       simp at h
     ·
      simp at h
    ·
     simp at h
end Go.Ev
end
