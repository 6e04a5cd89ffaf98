-- printed (pr.py)
import Derived.Test.YtijgeonhbmgikaaProg
import Derived.Below
import Derived.Deep.Draws
import Derived.Deep.AppendLies
import Derived.Maps.AppendAt
import Derived.OwnWalk
import Derived.Laws.BytesArg
import Derived.Laws.MakeOwn
import Derived.Laws.OwnMore
import Derived.Deep.OwnRows
import Derived.Tactics
import Derived.Lib.ConvBytes
import Derived.Laws.Slices
import Derived.WalkKit
import Derived.KernelRfl
import Derived.RowKit3
import Derived.Deep.LoopGhost
import Derived.Deep.QuietTactic
import Derived.BigQuiet
import Derived.WideLaws
import Derived.Deep.DeepCutAuto
import Derived.Deep.CutBlock
import Derived.Deep.RegionHeld3
import Derived.Laws.Rows
import Derived.Lib.AppendStr
import Derived.ArgAppend
import Derived.Laws.IdiomCopy
import Derived.OrdersHeld
import Derived.Laws.BitsLemmas
import Derived.RowKit
import Derived.Lib.SliceRun
import Derived.Laws.Externs
import Derived.Lib.BitFns
import Derived.Lib.Mul64
import Derived.Laws.Bits64b
import Derived.Test.YtijgeonhbmgikaaORatioFieldW
import Derived.Test.YtijgeonhbmgikaaLen64
import Derived.Laws.CopyOwn
import Derived.WalkMore
import Derived.StillTailTactics
namespace Go.Proofs.Ytijgeonhbmgikaa.PORatioField
open Go.RowKit Go.Proofs.YtijgeonhbmgikaaN Go.Proofs.YtijgeonhbmgikaaW.PrintWords Go.Proofs.YtijgeonhbmgikaaW.PrintLast Go.Proofs.YtijgeonhbmgikaaW.PrintMore
attribute [local go_sem] qH qF qg qd zq zo qG qE
set_option linter.unusedVariables false
set_option linter.unusedSimpArgs false
def errW : Option Int → Value
 | none => .nilIface
 | some c => .iface 0 (.int .i64 c)
theorem vY : errW none = .nilIface := rfl
theorem vX (c : Int) : errW (some c) = .iface 0 (.int .i64 c) := rfl
theorem qI : (Try.prog.info? 22).map (fun i => (i.zero, i.size, i.bytes)) = some (some (.int .u64 0), 1, 8) := by kernel_rfl
theorem jJk : (Try.prog.info? 35).map (fun i => (i.zero, i.size, i.bytes)) = some (some (.slice none 0 0), 1, 24) := by kernel_rfl
theorem jKt : (Try.prog.info? 44).map (fun i => (i.zero, i.size, i.bytes)) = some (some (.agg #[(.bool false), (.slice none 0 0), (.slice none 0 0)]), 3, 56) := by kernel_rfl
-- the values' own types
def jHH (xs : List (List Int)) (i : Int) : (List Int) := xs.getD i.toNat ([] : List Int)
theorem jKy {w : World} {A : Option Addr} {n : Nat} {xs : List (List Int)} (h : Kd.C (Kd.slice 22 (Kd.int .u64)) w A n xs) (i : Int) (h0 : 0 ≤ i) (h1 : i < n) : ∃ ad A0 c0, A = some ad ∧ w.cell? (ad.add i.toNat) = some (.slice A0 (jHH xs i).length c0) ∧ (jHH xs i).length ≤ c0 ∧ (Kd.int .u64).C w A0 (jHH xs i).length (jHH xs i) := by
 obtain ⟨ad, c, e, _, hK, hc0⟩ := Kd.jFa h ([] : List Int) i h0 h1
 have hc : ∀ j u, c[j]? = some u → w.cell? (ad.add (i.toNat * 1 + j)) = some u := hc0
 obtain ⟨A0, c0, rfl, l0, g0⟩ := hK
 exact ⟨ad, A0, c0, e, by have hq := hc 0 _ rfl; rwa [Nat.mul_one, Nat.add_zero] at hq, l0, g0⟩
/-! #### struct type 68 -/
structure S68 where
 f0 : Bool
 f1 : Bool
 f2 : Bool
def z68 : S68 := ⟨false, false, false⟩
def k68 : Kd S68 := Kd.iso (Kd.pair Kd.bool (Kd.pair Kd.bool Kd.bool)) (fun x : S68 => (x.f0, x.f1, x.f2))
theorem jHU : Kd.Heap k68 := Kd.jDS _ (Kd.jAu Kd.jCb (Kd.jAu Kd.jCb Kd.jCb))
theorem jEt {w : World} {x : S68} {cs : List Value} (h : k68.K w x cs) : cs = [.bool x.f0, .bool x.f1, .bool x.f2] := by
 obtain ⟨_, _, rfl, rfl, ⟨_, _, rfl, rfl, rfl⟩⟩ := h
 exact rfl
theorem jGI {w : World} {base : Nat} {ok : Nat → Prop} {x : S68} {cs : List Value} (h : k68.M w base ok x cs) : cs = [.bool x.f0, .bool x.f1, .bool x.f2] := by
 obtain ⟨_, _, rfl, rfl, ⟨_, _, rfl, rfl, rfl⟩⟩ := h
 exact rfl
theorem jHu (w : World) (x : S68)  : k68.K w x [.bool x.f0, .bool x.f1, .bool x.f2] := ⟨[.bool x.f0], [.bool x.f1, .bool x.f2], rfl, rfl, ⟨[.bool x.f1], [.bool x.f2], rfl, rfl, rfl⟩⟩
theorem jIk (w : World) (base : Nat) (ok : Nat → Prop) (x : S68)  : k68.M w base ok x [.bool x.f0, .bool x.f1, .bool x.f2] := ⟨[.bool x.f0], [.bool x.f1, .bool x.f2], rfl, rfl, ⟨[.bool x.f1], [.bool x.f2], rfl, rfl, rfl⟩⟩
theorem jKg (W : World) (ok : Nat → Prop) (x : S68) : Kd.FK k68 W ok x [.bool x.f0, .bool x.f1, .bool x.f2] := fun W2 _ => jHu W2 x
def jFo (xs : List S68) (i : Int) : S68 := xs.getD i.toNat z68
theorem jKx {w : World} {A : Option Addr} {n : Nat} {xs : List S68} (h : Kd.C k68 w A n xs) (i : Int) (h0 : 0 ≤ i) (h1 : i < n) : ∃ ad , A = some ad ∧ w.cell? (ad.add (i.toNat * 3)) = some (.bool (jFo xs i).f0) ∧ w.cell? ⟨(ad.add (i.toNat * 3)).block, (ad.add (i.toNat * 3)).off + 1, none⟩ = some (.bool (jFo xs i).f1) ∧ w.cell? ⟨(ad.add (i.toNat * 3)).block, (ad.add (i.toNat * 3)).off + 2, none⟩ = some (.bool (jFo xs i).f2) := by
 obtain ⟨ad, c, e, _, hK, hc0⟩ := Kd.jFa h z68 i h0 h1
 have hc : ∀ j u, c[j]? = some u → w.cell? (ad.add (i.toNat * 3 + j)) = some u := hc0
 obtain rfl := jEt hK
 exact ⟨ad, e, hc 0 _ rfl, by rw [← qp _ _ 1 (by omega)]; exact hc 1 _ rfl, by rw [← qp _ _ 2 (by omega)]; exact hc 2 _ rfl⟩
/-! #### struct type 69 -/
structure S69 where
 f0 : Int
 f1 : Int
 f2 : Int
def z69 : S69 := ⟨(0 : Int), (0 : Int), (0 : Int)⟩
def k69 : Kd S69 := Kd.iso (Kd.pair (Kd.int .u32) (Kd.pair (Kd.int .u32) (Kd.int .u32))) (fun x : S69 => (x.f0, x.f1, x.f2))
theorem jEs : Kd.Heap k69 := Kd.jDS _ (Kd.jAu (Kd.zH .u32) (Kd.jAu (Kd.zH .u32) (Kd.zH .u32)))
theorem jDQ {w : World} {x : S69} {cs : List Value} (h : k69.K w x cs) : cs = [.int .u32 x.f0, .int .u32 x.f1, .int .u32 x.f2] := by
 obtain ⟨_, _, rfl, rfl, ⟨_, _, rfl, rfl, rfl⟩⟩ := h
 exact rfl
theorem jDu {w : World} {base : Nat} {ok : Nat → Prop} {x : S69} {cs : List Value} (h : k69.M w base ok x cs) : cs = [.int .u32 x.f0, .int .u32 x.f1, .int .u32 x.f2] := by
 obtain ⟨_, _, rfl, rfl, ⟨_, _, rfl, rfl, rfl⟩⟩ := h
 exact rfl
theorem jGH (w : World) (x : S69)  : k69.K w x [.int .u32 x.f0, .int .u32 x.f1, .int .u32 x.f2] := ⟨[.int .u32 x.f0], [.int .u32 x.f1, .int .u32 x.f2], rfl, rfl, ⟨[.int .u32 x.f1], [.int .u32 x.f2], rfl, rfl, rfl⟩⟩
theorem jGG (w : World) (base : Nat) (ok : Nat → Prop) (x : S69)  : k69.M w base ok x [.int .u32 x.f0, .int .u32 x.f1, .int .u32 x.f2] := ⟨[.int .u32 x.f0], [.int .u32 x.f1, .int .u32 x.f2], rfl, rfl, ⟨[.int .u32 x.f1], [.int .u32 x.f2], rfl, rfl, rfl⟩⟩
theorem jKf (W : World) (ok : Nat → Prop) (x : S69) : Kd.FK k69 W ok x [.int .u32 x.f0, .int .u32 x.f1, .int .u32 x.f2] := fun W2 _ => jGH W2 x
def jFn (xs : List S69) (i : Int) : S69 := xs.getD i.toNat z69
theorem jKw {w : World} {A : Option Addr} {n : Nat} {xs : List S69} (h : Kd.C k69 w A n xs) (i : Int) (h0 : 0 ≤ i) (h1 : i < n) : ∃ ad , A = some ad ∧ w.cell? (ad.add (i.toNat * 3)) = some (.int .u32 (jFn xs i).f0) ∧ w.cell? ⟨(ad.add (i.toNat * 3)).block, (ad.add (i.toNat * 3)).off + 1, none⟩ = some (.int .u32 (jFn xs i).f1) ∧ w.cell? ⟨(ad.add (i.toNat * 3)).block, (ad.add (i.toNat * 3)).off + 2, none⟩ = some (.int .u32 (jFn xs i).f2) := by
 obtain ⟨ad, c, e, _, hK, hc0⟩ := Kd.jFa h z69 i h0 h1
 have hc : ∀ j u, c[j]? = some u → w.cell? (ad.add (i.toNat * 3 + j)) = some u := hc0
 obtain rfl := jDQ hK
 exact ⟨ad, e, hc 0 _ rfl, by rw [← qp _ _ 1 (by omega)]; exact hc 1 _ rfl, by rw [← qp _ _ 2 (by omega)]; exact hc 2 _ rfl⟩
/-! #### struct type 71 -/
structure S71 where
 f0 : S68
 f1 : S69
 f2 : S69
def z71 : S71 := ⟨z68, z69, z69⟩
def k71 : Kd S71 := Kd.iso (Kd.pair k68 (Kd.pair k69 k69)) (fun x : S71 => (x.f0, x.f1, x.f2))
theorem jKV : Kd.Heap k71 := Kd.jDS _ (Kd.jAu jHU (Kd.jAu jEs jEs))
theorem k71_open {w : World} {x : S71} {cs : List Value} (h : k71.K w x cs) : cs = [.bool x.f0.f0, .bool x.f0.f1, .bool x.f0.f2, .int .u32 x.f1.f0, .int .u32 x.f1.f1, .int .u32 x.f1.f2, .int .u32 x.f2.f0, .int .u32 x.f2.f1, .int .u32 x.f2.f2] := by
 obtain ⟨_, _, rfl, s0, ⟨_, _, rfl, s3, s6⟩⟩ := h
 obtain rfl := jEt s0
 obtain rfl := jDQ s3
 obtain rfl := jDQ s6
 exact rfl
theorem jJg {w : World} {base : Nat} {ok : Nat → Prop} {x : S71} {cs : List Value} (h : k71.M w base ok x cs) : cs = [.bool x.f0.f0, .bool x.f0.f1, .bool x.f0.f2, .int .u32 x.f1.f0, .int .u32 x.f1.f1, .int .u32 x.f1.f2, .int .u32 x.f2.f0, .int .u32 x.f2.f1, .int .u32 x.f2.f2] := by
 obtain ⟨_, _, rfl, s0, ⟨_, _, rfl, s3, s6⟩⟩ := h
 obtain rfl := jGI s0
 obtain rfl := jDu s3
 obtain rfl := jDu s6
 exact rfl
theorem jJh (w : World) (x : S71)  : k71.K w x [.bool x.f0.f0, .bool x.f0.f1, .bool x.f0.f2, .int .u32 x.f1.f0, .int .u32 x.f1.f1, .int .u32 x.f1.f2, .int .u32 x.f2.f0, .int .u32 x.f2.f1, .int .u32 x.f2.f2] := ⟨[.bool x.f0.f0, .bool x.f0.f1, .bool x.f0.f2], [.int .u32 x.f1.f0, .int .u32 x.f1.f1, .int .u32 x.f1.f2, .int .u32 x.f2.f0, .int .u32 x.f2.f1, .int .u32 x.f2.f2], rfl, (jHu w x.f0 ), ⟨[.int .u32 x.f1.f0, .int .u32 x.f1.f1, .int .u32 x.f1.f2], [.int .u32 x.f2.f0, .int .u32 x.f2.f1, .int .u32 x.f2.f2], rfl, (jGH w x.f1 ), (jGH w x.f2 )⟩⟩
theorem jKd (w : World) (base : Nat) (ok : Nat → Prop) (x : S71)  : k71.M w base ok x [.bool x.f0.f0, .bool x.f0.f1, .bool x.f0.f2, .int .u32 x.f1.f0, .int .u32 x.f1.f1, .int .u32 x.f1.f2, .int .u32 x.f2.f0, .int .u32 x.f2.f1, .int .u32 x.f2.f2] := ⟨[.bool x.f0.f0, .bool x.f0.f1, .bool x.f0.f2], [.int .u32 x.f1.f0, .int .u32 x.f1.f1, .int .u32 x.f1.f2, .int .u32 x.f2.f0, .int .u32 x.f2.f1, .int .u32 x.f2.f2], rfl, (jIk w base ok x.f0 ), ⟨[.int .u32 x.f1.f0, .int .u32 x.f1.f1, .int .u32 x.f1.f2], [.int .u32 x.f2.f0, .int .u32 x.f2.f1, .int .u32 x.f2.f2], rfl, (jGG w base ok x.f1 ), (jGG w base ok x.f2 )⟩⟩
theorem jKe (W : World) (ok : Nat → Prop) (x : S71) : Kd.FK k71 W ok x [.bool x.f0.f0, .bool x.f0.f1, .bool x.f0.f2, .int .u32 x.f1.f0, .int .u32 x.f1.f1, .int .u32 x.f1.f2, .int .u32 x.f2.f0, .int .u32 x.f2.f1, .int .u32 x.f2.f2] := fun W2 _ => jJh W2 x
def jBi (xs : List S71) (i : Int) : S71 := xs.getD i.toNat z71
theorem jKv {w : World} {A : Option Addr} {n : Nat} {xs : List S71} (h : Kd.C k71 w A n xs) (i : Int) (h0 : 0 ≤ i) (h1 : i < n) : ∃ ad , A = some ad ∧ w.cell? (ad.add (i.toNat * 9)) = some (.bool (jBi xs i).f0.f0) ∧ w.cell? ⟨(ad.add (i.toNat * 9)).block, (ad.add (i.toNat * 9)).off + 1, none⟩ = some (.bool (jBi xs i).f0.f1) ∧ w.cell? ⟨(ad.add (i.toNat * 9)).block, (ad.add (i.toNat * 9)).off + 2, none⟩ = some (.bool (jBi xs i).f0.f2) ∧ w.cell? ⟨(ad.add (i.toNat * 9)).block, (ad.add (i.toNat * 9)).off + 3, none⟩ = some (.int .u32 (jBi xs i).f1.f0) ∧ w.cell? ⟨(ad.add (i.toNat * 9)).block, (ad.add (i.toNat * 9)).off + 4, none⟩ = some (.int .u32 (jBi xs i).f1.f1) ∧ w.cell? ⟨(ad.add (i.toNat * 9)).block, (ad.add (i.toNat * 9)).off + 5, none⟩ = some (.int .u32 (jBi xs i).f1.f2) ∧ w.cell? ⟨(ad.add (i.toNat * 9)).block, (ad.add (i.toNat * 9)).off + 6, none⟩ = some (.int .u32 (jBi xs i).f2.f0) ∧ w.cell? ⟨(ad.add (i.toNat * 9)).block, (ad.add (i.toNat * 9)).off + 7, none⟩ = some (.int .u32 (jBi xs i).f2.f1) ∧ w.cell? ⟨(ad.add (i.toNat * 9)).block, (ad.add (i.toNat * 9)).off + 8, none⟩ = some (.int .u32 (jBi xs i).f2.f2) := by
 obtain ⟨ad, c, e, _, hK, hc0⟩ := Kd.jFa h z71 i h0 h1
 have hc : ∀ j u, c[j]? = some u → w.cell? (ad.add (i.toNat * 9 + j)) = some u := hc0
 obtain rfl := k71_open hK
 exact ⟨ad, e, hc 0 _ rfl, by rw [← qp _ _ 1 (by omega)]; exact hc 1 _ rfl, by rw [← qp _ _ 2 (by omega)]; exact hc 2 _ rfl, by rw [← qp _ _ 3 (by omega)]; exact hc 3 _ rfl, by rw [← qp _ _ 4 (by omega)]; exact hc 4 _ rfl, by rw [← qp _ _ 5 (by omega)]; exact hc 5 _ rfl, by rw [← qp _ _ 6 (by omega)]; exact hc 6 _ rfl, by rw [← qp _ _ 7 (by omega)]; exact hc 7 _ rfl, by rw [← qp _ _ 8 (by omega)]; exact hc 8 _ rfl⟩
theorem jBz {α : Type} {Rr : α → List Value → Prop} {sz : Nat} {w : World} {A : Option Addr} {n m : Nat} {xs : List α} (e : n = m) (h : qU Rr sz w A n xs) : qU Rr sz w A m xs := e ▸ h
theorem jJp {P : Program} {t e : TypeId} {w : World} {d : Nat} {xs ys : Array Value} {a0 a1 a2 a3 b0 b1 b2 b3 : Value} {r0 r1 r2 r3 : Bool} (hu : P.underlying t = some (.array 4 e)) (hs : (sizeOf e).run P w = .ok 1 w)
  (p0 : (part e xs 0).run P w = .ok a0 w) (p1 : (part e xs 1).run P w = .ok a1 w) (p2 : (part e xs 2).run P w = .ok a2 w) (p3 : (part e xs 3).run P w = .ok a3 w)
  (q0 : (part e ys 0).run P w = .ok b0 w) (q1 : (part e ys 1).run P w = .ok b1 w) (q2 : (part e ys 2).run P w = .ok b2 w) (q3 : (part e ys 3).run P w = .ok b3 w)
  (e0 : (Op.equalIn d e a0 b0).run P w = .ok r0 w) (e1 : (Op.equalIn d e a1 b1).run P w = .ok r1 w) (e2 : (Op.equalIn d e a2 b2).run P w = .ok r2 w) (e3 : (Op.equalIn d e a3 b3).run P w = .ok r3 w) :
  (Op.equalIn (d + 1) t (.agg xs) (.agg ys)).run P w = .ok (r0 && (r1 && (r2 && r3))) w := by
 simp only [Op.equalIn, Sem.run_bind, run_underlying hu, Result.andThen_ok, hs]
 rw [show (forIn (m := Sem) [0:4] : _ → _ → _) = forIn [0, 1, 2, 3] from by funext b f; rw [Std.Legacy.Range.forIn_eq_forIn_range']; rfl]
 simp only [List.forIn_cons, List.forIn_nil, Sem.run_bind, Nat.mul_one, p0, p1, p2, p3, q0, q1, q2, q3, e0, e1, e2, e3, Result.andThen_ok]
 cases r0 <;> cases r1 <;> cases r2 <;> cases r3 <;> simp [e0, e1, e2, e3, p0, p1, p2, p3, q0, q1, q2, q3]
/-- math/bits.Add64 and Sub64, as the model has them. -/
def ad64 (x y c : Int) : Int := (((x.toNat + y.toNat + c.toNat) % 18446744073709551616 : Nat) : Int)
def ac64 (x y c : Int) : Int := (((x.toNat + y.toNat + c.toNat) / 18446744073709551616 : Nat) : Int)
def sb64 (x y b : Int) : Int := (((x.toNat + 18446744073709551616 - y.toNat - b.toNat) % 18446744073709551616 : Nat) : Int)
def bb64 (x y b : Int) : Int := ((if x.toNat < y.toNat + b.toNat then 1 else 0 : Nat) : Int)
def jEo : Array Value → Sem Value := fun args => do
 let (x, y, c) ← Extern.MathBitsCarry.three "Add64" args
 pure (Extern.MathBitsCarry.pair ((x + y + c) % Extern.MathBitsCarry.m64) ((x + y + c) / Extern.MathBitsCarry.m64))
def jEn : Array Value → Sem Value := fun args => do
 let (x, y, b) ← Extern.MathBitsCarry.three "Sub64" args
 pure (Extern.MathBitsCarry.pair ((x + Extern.MathBitsCarry.m64 - y - b) % Extern.MathBitsCarry.m64) (if x < y + b then 1 else 0))
theorem jDl {P : Program} (x y c : Int) (h : c ≤ 1) (w : World) : (jEo #[.int .u64 x, .int .u64 y, .int .u64 c]).run P w = .ok (.tuple #[.int .u64 (ad64 x y c), .int .u64 (ac64 x y c)]) w := by
 match c, h with
 | .ofNat 0, _ => rfl
 | .ofNat 1, _ => rfl
 | .ofNat (n + 2), h => exact absurd h (by simp only [Int.ofNat_eq_natCast]; omega)
 | .negSucc n, _ => rfl
theorem jDk {P : Program} (x y c : Int) (h : c ≤ 1) (w : World) : (jEn #[.int .u64 x, .int .u64 y, .int .u64 c]).run P w = .ok (.tuple #[.int .u64 (sb64 x y c), .int .u64 (bb64 x y c)]) w := by
 match c, h with
 | .ofNat 0, _ => rfl
 | .ofNat 1, _ => rfl
 | .ofNat (n + 2), h => exact absurd h (by simp only [Int.ofNat_eq_natCast]; omega)
 | .negSucc n, _ => rfl
@[go_sem] theorem jJo (x y c : Int) (h : decide (c ≤ 1) = true) (w : World) : (callFunc 112 #[.int .u64 x, .int .u64 y, .int .u64 c]).run Try.prog w = .ok (.value (.tuple #[.int .u64 (ad64 x y c), .int .u64 (ac64 x y c)])) w := by
 rw [run_callFunc_extern Try.func112 kr_ kr_ kr_ (e := jEo) kr_, jDl x y c (of_decide_eq_true h)]
 rfl
@[go_sem] theorem jJn (x y c : Int) (h : decide (c ≤ 1) = true) (w : World) : (callFunc 121 #[.int .u64 x, .int .u64 y, .int .u64 c]).run Try.prog w = .ok (.value (.tuple #[.int .u64 (sb64 x y c), .int .u64 (bb64 x y c)])) w := by
 rw [run_callFunc_extern Try.func121 kr_ kr_ kr_ (e := jEn) kr_, jDk x y c (of_decide_eq_true h)]
 rfl
section
variable {P : Program} {ops : Array Oper} {rest : List Oper} {o : Oper} {a : Act} {Q : Exit → Act → World → Prop} {W : World}
theorem jHY {t : Tmp} {as_ : Array Operand} {ts : Array TypeId} (_ho : o.op = .call { callee := .value (.tmp t), args := as_, argTypes := ts }) (h : wpList P ops Q (o :: rest) a W) : wpList P ops Q (o :: rest) a W := h
/-- A call of a function that is a value in a slot, nothing captured. -/
theorem jKu {w : World} (N : Option Tmp) (hd : o.dst = N) (hg : o.guard = none) {f : FuncId} {fn : Func} {t : Tmp} {as_ : Array Operand} {ts : Array TypeId} (hf : P.funcs[f]? = some fn) (hname : (fn.name == "runtime.NumGoroutine") = false) (hb : fn.body.isSome = true) (args : Array Value)
  (hop : o.op = .call { callee := .value (.tmp t), args := as_, argTypes := ts }) (hv : a.eval (.tmp t) = .func (.func f) #[] #[]) (hargs : as_.map a.eval = args)
  (h : Calls P f args w fun e w' => ∃ v, e = .returned v ∧ wpList P ops Q rest (a.put N v) w') : wpList P ops Q (o :: rest) a w := by
 refine wpList_plain hg fun K hK => ?_
 have he := jCd hf hname hb args w
 have hrun : (execOp a.eval o).run P w = .ok (.enter f args) w := by
  unfold execOp
  simp [hop, resolve, Deferred.ofValue, invoke, hv, hargs, he]
 unfold Oper.wp
 rw [hrun, Oper.upon_enter]
 refine h.mono fun e w'' hh => ?_
 obtain ⟨v, rfl, hk⟩ := hh
 subst hd
 exact hK _ _ hk
theorem jFZ {α : Type} (d : Kd α) {w0 : World} (base e : Nat) (hgd : o.guard = none) {N : Tmp} (hd : o.dst = some N) (t : TypeId) (x y : Operand) (ho : o.op = .makeSlice t x y) (n m : Int) (hx : a.eval x = .int .i64 n) (hy : a.eval y = .int .i64 m)
  (ht : P.underlying t = some (.slice e)) (z : Value) (bytes : Nat) (hinfo : (P.info? e).map (fun i => (i.zero, i.size, i.bytes)) = some (some z, d.sz, bytes)) (hz : z.cells.size = d.sz) (hs0 : 0 < d.sz) (hb0 : 0 < bytes)
  (z0 : α) {ok okp : Nat → Prop} (hzero : d.M W base okp z0 z.cells.toList) (hok : ∀ k, okp k → ok k) (hfresh : ok W.heap.size) (h0 : 0 ≤ n) (hnm : n ≤ m) (hl : m.toNat * bytes ≤ 281474976710656) (HB : Below base w0 W) (hbase : base ≤ W.heap.size)
  (h : ∀ v1 w1, d.R e w1 base ok v1 (List.replicate n.toNat z0) → Below base w0 w1 → W.grownBy w1 none → (∃ b, v1.ownBlock = some b ∧ W.heap.size ≤ b) → wpList P ops Q rest (a.put o.dst v1) w1) : wpList P ops Q (o :: rest) a W := by
 obtain ⟨n, rfl⟩ := Int.eq_ofNat_of_zero_le h0
 obtain ⟨m, rfl⟩ := Int.eq_ofNat_of_zero_le (Int.le_trans h0 hnm)
 simp only [Int.toNat_natCast] at hl h
 have hnm' : n ≤ m := by omega
 obtain ⟨i0, hi, hzz⟩ := Option.map_eq_some_iff.1 hinfo
 simp only [Prod.mk.injEq] at hzz
 obtain ⟨hz0, hz1, hz2⟩ := hzz
 have hm : m ≤ 281474976710656 := Nat.le_trans (Nat.le_mul_of_pos_right _ hb0) hl
 have hr := run_make (P := P) W t e i0 z ht hi hz0 .i64 .i64 (n : Int) (m : Int) (by omega) (by omega)
  (by
   have h3 : ((i0.bytes * m : Nat) : Int) ≤ 281474976710656 := by rw [hz2, Nat.mul_comm]; omega
   rwa [Int.natCast_mul] at h3) (by omega)
 simp only [Int.toNat_natCast] at hr
 rw [hz1] at hr
 have hrep := Kd.jCQ hz hs0 hzero m
 have hrun : (execOp a.eval o).run P W = .ok (.value (.slice (some ⟨W.heap.size, 0, none⟩) n m)) (W.alloc (.cells (madeCells z.cells (m * d.sz)) e)) := by
  simp [execOp, ho, hx, hy, hr]
 have hR : d.R e (W.alloc (.cells (madeCells z.cells (m * d.sz)) e)) base ok (.slice (some ⟨W.heap.size, 0, none⟩) m m) (List.replicate m z0) := by
  refine ⟨fun k hk => ?_, (madeCells z.cells (m * d.sz)).toList, ?_, ?_⟩
  ·
   have : W.heap.size = k := by simpa [Value.ownBlock] using hk
   subst this
   exact hfresh
  ·
   have h2 := World.ownsRow_lit (base := base) (e := e) (size := d.sz) W (madeCells z.cells (m * d.sz)) m hbase (by simp only [maxLen]; omega) (by simp [size_madeCells])
   simpa using h2
  ·
   refine hrep.imp_ (fun p c hp => d.M_mono (fun k hk => ⟨hok k hk.1, fun he => ?_⟩) (Kd.jEe (d.M_bound hp) (jk (Below.refl _ _) _)))
   have h3 : k = W.heap.size := by simpa [Value.ownBlock] using he
   have := hk.2.2.1
   omega
 have hT := Kd.jIC (m := n) hR (by simpa using hnm')
 rw [List.take_replicate, Nat.min_eq_left hnm'] at hT
 exact Kd.jCc hgd hrun (h _ _ hT (HB.alloc hbase _) (World.grownBy_alloc W _ none) ⟨W.heap.size, by simp [Value.ownBlock], Nat.le_refl _⟩)
end
end Go.Proofs.Ytijgeonhbmgikaa.PORatioField
