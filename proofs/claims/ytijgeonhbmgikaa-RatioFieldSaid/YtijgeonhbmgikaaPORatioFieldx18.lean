-- printed (pr.py)
import Derived.Test.YtijgeonhbmgikaaPORatioFieldx15
import Derived.Test.YtijgeonhbmgikaaPORatioFieldx17
namespace Go.Proofs.Ytijgeonhbmgikaa.PORatioField
open Go.RowKit Go.Proofs.YtijgeonhbmgikaaN Go.Proofs.YtijgeonhbmgikaaW.PrintWords Go.Proofs.YtijgeonhbmgikaaW.PrintLast Go.Proofs.YtijgeonhbmgikaaW.PrintMore
attribute [local go_sem] qH qF qg qd zq zo qG qE
set_option maxRecDepth 100000
set_option linter.unusedVariables false
set_option linter.unusedSimpArgs false
section
variable {P : Program} {ops : Array Oper} {Q : Exit → Act → World → Prop}
/-- A call of a function that is a value in a slot, in a region that draws. -/
theorem qX {oi : Oper} {N : Option Tmp} {a : Act} {w : World} {K : Act → World → Prop} {f : FuncId} {fn : Func} {t : Tmp} {as_ : Array Operand} {ts : Array TypeId} (caps : Array Value) (hf : P.funcs[f]? = some fn) (hname : (fn.name == "runtime.NumGoroutine") = false) (hb : fn.body.isSome = true) (args : Array Value)
  (hw : Region.wanted oi (yielded ops a.tmps) = true) (hN : oi.dst = N) (hop : oi.op = .call { callee := .value (.tmp t), args := as_, argTypes := ts }) (hv : a.eval (.tmp t) = .func (.func f) #[] caps) (hargs : as_.map a.eval ++ caps = args)
  (h : Calls P f args w fun e w' => ∃ v, e = .returned v ∧ K (a.put N v) w') : if Region.wanted oi (yielded ops a.tmps) = true then Oper.wp P oi a w K Q else K (a.put N undef) w := by
 refine call_ f args hw hN ?_ h
 have he := jCd hf hname hb args w
 unfold execOp
 simp [hop, resolve, Deferred.ofValue, invoke, hv, hargs, he]
end
/-- A value is a number: sign, and both rows, as they can be read. -/
def jAp (w : World) (v : Value) (q : Bool × List Int × List Int) : Prop := ∃ A c B d, v = .agg #[.bool q.1, .slice A q.2.1.length c, .slice B q.2.2.length d] ∧ Kd.C (Kd.int .u64) w A q.2.1.length q.2.1 ∧ q.2.1.length ≤ c ∧ Kd.C (Kd.int .u64) w B q.2.2.length q.2.2 ∧ q.2.2.length ≤ d
theorem jAp.below {w w' : World} {v : Value} {q : Bool × List Int × List Int} (h : jAp w v q) (hb : Below w.heap.size w w') : jAp w' v q := by
 obtain ⟨A, c, B, d, e, h1, h2, h3, h4⟩ := h
 exact ⟨A, c, B, d, e, Kd.zl h1 hb, h2, Kd.zl h3 hb, h4⟩
theorem jAW {w : World} {base e1 e2 : Nat} {ok1 ok2 : Nat → Prop} {v1 v2 : Value} {q : Bool × List Int × List Int} (h1 : Kd.R (Kd.int .u64) e1 w base ok1 v1 q.2.1) (h2 : Kd.R (Kd.int .u64) e2 w base ok2 v2 q.2.2) : jAp w (.agg #[.bool q.1, v1, v2]) q := by
 obtain ⟨A, c, rfl, hc, hC⟩ := Kd.jCj h1
 obtain ⟨B, d, rfl, hd, hD⟩ := Kd.jCj h2
 exact ⟨A, c, B, d, rfl, hC, hc, hD, hd⟩
def jDg (k : Nat) (x y z : Bool × List Int × List Int) : Prop := zC.f k x.1 x.2.1 x.2.2 y.1 y.2.1 y.2.2 = some (z.1, z.2.1, z.2.2)
def jCk (k : Nat) (x y z : Bool × List Int × List Int) : Prop := zA.f k x.1 x.2.1 x.2.2 y.1 y.2.1 y.2.2 = some (z.1, z.2.1, z.2.2)
def jBZ (k : Nat) (x y : Bool × List Int × List Int) : Prop := vC.f k x.1 x.2.1 x.2.2 y.1 y.2.1 y.2.2 = some true
def jKJ (x z : Bool × List Int × List Int) : Prop := qP.f x.1 x.2.1 x.2.2 = some (z.1, z.2.1, z.2.2)
def OfIs (n : Int) (z : Bool × List Int × List Int) : Prop := zV.f n = some (z.1, z.2.1, z.2.2)
def jHm (k : Nat) (x z : Bool × List Int × List Int) (e : Int) : Prop := qC.f k x.1 x.2.1 x.2.2 = some (z.1, z.2.1, z.2.2, e)
def jEG (k : Nat) (s : Bool) (n d : Int) (z : Bool × List Int × List Int) : Prop := ze.f k s n d = some (z.1, z.2.1, z.2.2)
section
variable {k : Nat} {x y z : Bool × List Int × List Int} {vx vy : Value} {u : World}
theorem jBl (hx : jAp u vx x) (hy : jAp u vy y) (h : jDg k x y z) : Calls Try.prog 48 #[vx, vy] u fun e u' => ∃ v, e = .returned v ∧ jAp u' v z ∧ Below u.heap.size u u' := by
 obtain ⟨A, c, B, d, rfl, h1, h2, h3, h4⟩ := hx
 obtain ⟨A', c', B', d', rfl, g1, g2, g3, g4⟩ := hy
 refine (zC.calls k x.1 A c x.2.1 B d x.2.2 y.1 A' c' y.2.1 B' d' y.2.2 z.1 z.2.1 z.2.2 u h1 h2 h3 h4 g1 g2 g3 g4 h).mono ?_
 rintro e u' ⟨v1, v2, rfl, r1, r2, hb⟩
 exact ⟨_, rfl, jAW r1 r2, hb⟩
theorem jBF (hx : jAp u vx x) (hy : jAp u vy y) (h : jCk k x y z) : Calls Try.prog 50 #[vx, vy] u fun e u' => ∃ v, e = .returned v ∧ jAp u' v z ∧ Below u.heap.size u u' := by
 obtain ⟨A, c, B, d, rfl, h1, h2, h3, h4⟩ := hx
 obtain ⟨A', c', B', d', rfl, g1, g2, g3, g4⟩ := hy
 refine (zA.calls k x.1 A c x.2.1 B d x.2.2 y.1 A' c' y.2.1 B' d' y.2.2 z.1 z.2.1 z.2.2 u h1 h2 h3 h4 g1 g2 g3 g4 h).mono ?_
 rintro e u' ⟨v1, v2, rfl, r1, r2, hb⟩
 exact ⟨_, rfl, jAW r1 r2, hb⟩
theorem jBJ (hx : jAp u vx x) (hy : jAp u vy y) (h : jBZ k x y) : Calls Try.prog 26 #[vx, vy] u fun e u' => e = .returned (.bool true) ∧ Below u.heap.size u u' := by
 obtain ⟨A, c, B, d, rfl, h1, h2, h3, h4⟩ := hx
 obtain ⟨A', c', B', d', rfl, g1, g2, g3, g4⟩ := hy
 exact vC.calls k x.1 A c x.2.1 B d x.2.2 y.1 A' c' y.2.1 B' d' y.2.2 true u h1 h2 h3 h4 g1 g2 g3 g4 h
theorem jJW (hx : jAp u vx x) (h : jKJ x z) : Calls Try.prog 52 #[vx] u fun e u' => ∃ v, e = .returned v ∧ jAp u' v z ∧ Below u.heap.size u u' := by
 obtain ⟨A, c, B, d, rfl, h1, h2, h3, h4⟩ := hx
 refine (qP.calls x.1 A c x.2.1 B d x.2.2 z.1 z.2.1 z.2.2 u h1 h2 h3 h4 h).mono ?_
 rintro e u' ⟨v1, v2, rfl, r1, r2, hb⟩
 exact ⟨_, rfl, jAW r1 r2, hb⟩
theorem jJj {ec : Int} (hx : jAp u vx x) (h : jHm k x z ec) : Calls Try.prog 53 #[vx] u fun e u' => ∃ v, e = .returned (.tuple #[v, .int .i64 ec]) ∧ jAp u' v z ∧ Below u.heap.size u u' := by
 obtain ⟨A, c, B, d, rfl, h1, h2, h3, h4⟩ := hx
 refine (qC.calls k x.1 A c x.2.1 B d x.2.2 z.1 z.2.1 z.2.2 ec u h1 h2 h3 h4 h).mono ?_
 rintro e u' ⟨v1, v2, rfl, r1, r2, hb⟩
 exact ⟨_, rfl, jAW r1 r2, hb⟩
theorem jIF {zb : Bool} (hx : jAp u vx x) (h : zF.f x.1 x.2.1 x.2.2 = some zb) : Calls Try.prog 54 #[vx] u fun e u' => e = .returned (.bool zb) ∧ Below u.heap.size u u' := by
 obtain ⟨A, c, B, d, rfl, h1, h2, h3, h4⟩ := hx
 exact zF.calls x.1 A c x.2.1 B d x.2.2 zb u h1 h2 h3 h4 h
theorem jJV {n : Int} (h : OfIs n z) (u : World) : Calls Try.prog 39 #[.int .i64 n] u fun e u' => ∃ v, e = .returned v ∧ jAp u' v z ∧ Below u.heap.size u u' := by
 refine (zV.calls n z.1 z.2.1 z.2.2 u h).mono ?_
 rintro e u' ⟨v1, v2, rfl, r1, r2, hb⟩
 exact ⟨_, rfl, jAW r1 r2, hb⟩
theorem jEQ {s : Bool} {n d : Int} (h : jEG k s n d z) (u : World) : Calls Try.prog 41 #[.bool s, .int .u32 n, .int .u32 d] u fun e u' => ∃ v, e = .returned v ∧ jAp u' v z ∧ Below u.heap.size u u' := by
 refine (ze.calls k s n d z.1 z.2.1 z.2.2 u h).mono ?_
 rintro e u' ⟨v1, v2, rfl, r1, r2, hb⟩
 exact ⟨_, rfl, jAW r1 r2, hb⟩
end
def syzygylaw05_RatioField.T7 : Bool × List (List Nat × List Nat) := (true, [([], []), ([0], [0]), ([1, 0], [1]), ([2], [2]), ([2], [2]), ([2], [2]), ([2], [2]), ([4, 5, 6, 2, 2], [2, 4, 5, 6]), ([2], [2]), ([2], [2]), ([2], [2]), ([8, 9, 10, 7, 2], [2, 8, 9, 10]), ([3, 7, 11, 11, 2], [2, 3, 7, 11]), ([12, 2], [2, 12]), ([2, 13], [2, 13]), ([14, 12], [14]), ([15], [15]), ([15], [15]), ([15], [15]), ([15], [15]), ([17, 18, 19, 15, 15], [15, 17, 18, 19]), ([15], [15]), ([15], [15]), ([15], [15]), ([21, 22, 23, 20, 15], [15, 21, 22, 23]), ([16, 20, 24, 24, 15], [15, 16, 20, 24]), ([25, 15], [15, 25]), ([15, 26], [15, 26]), ([27, 25], [27]), ([28], [28]), ([28], [28]), ([28], [28]), ([28], [28]), ([28], [28]), ([31, 32, 33, 28, 28], [28, 31, 32, 33]), ([28], [28]), ([30, 34, 35, 34, 28], [28, 30, 34, 35]), ([28], [28]), ([28], [28]), ([28], [28]), ([28], [28]), ([28], [28]), ([39, 40, 41, 36, 28], [28, 39, 40, 41]), ([37, 38, 42, 42, 28], [28, 37, 38, 42]), ([29, 36, 43, 43, 28], [28, 29, 36, 43]), ([44, 28], [28, 44]), ([28, 45], [28, 45]), ([46, 44], [46]), ([47], [47]), ([47], [47]), ([47], [47]), ([47], [47]), ([47], [47]), ([50, 51, 52, 47, 47], [47, 50, 51, 52]), ([47], [47]), ([49, 53, 54, 53, 47], [47, 49, 53, 54]), ([47], [47]), ([47], [47]), ([47], [47]), ([47], [47]), ([47], [47]), ([58, 59, 60, 55, 47], [47, 58, 59, 60]), ([56, 57, 61, 61, 47], [47, 56, 57, 61]), ([48, 55, 62, 62, 47], [47, 48, 55, 62]), ([63, 47], [47, 63]), ([47, 64], [47, 64]), ([65, 63], [65]), ([66], [66]), ([66], [66]), ([66], [66]), ([66], [66]), ([66], [66]), ([66], [66]), ([70, 71, 72, 66, 66], [66, 70, 71, 72]), ([68, 69, 73, 73, 66], [66, 68, 69, 73]), ([66], [66]), ([66], [66]), ([66], [66]), ([66], [66]), ([76, 77, 78, 74, 66], [66, 76, 77, 78]), ([66], [66]), ([66], [66]), ([66], [66]), ([80, 81, 82, 79, 66], [66, 80, 81, 82]), ([75, 79, 83, 83, 66], [66, 75, 79, 83]), ([67, 74, 84, 84, 66], [66, 67, 74, 84]), ([85, 66], [66, 85]), ([66, 86], [66, 86]), ([87, 85], [87]), ([88], [88]), ([88], [88]), ([88], [88]), ([88], [88]), ([92, 88, 88], [88, 92]), ([90, 91, 93, 93, 88], [88, 90, 91, 93]), ([94, 88], [88]), ([89, 94, 95, 95, 88], [88, 89, 94, 95]), ([96, 88], [88, 96]), ([88, 97], [88, 97])])
def syzygylaw05_RatioField.B7 : List Nat := [0, 1, 3, 7, 7, 7, 7, 119, 7, 7, 7, 2039, 4095, 8191, 16383, 32767, 65535, 65535, 65535, 65535, 983039, 65535, 65535, 65535, 16711679, 33554431, 67108863, 134217727, 268435455, 536870911, 536870911, 536870911, 536870911, 536870911, 15569256447, 536870911, 68182605823, 536870911, 536870911, 536870911, 536870911, 536870911, 3985192779775, 8795556151295, 17592186044415, 35184372088831, 70368744177663, 140737488355327, 281474976710655, 281474976710655, 281474976710655, 281474976710655, 281474976710655, 8162774324609023, 281474976710655, 35747322042253311, 281474976710655, 281474976710655, 281474976710655, 281474976710655, 281474976710655, 2089388752123199487, 4611404543450677247, 9223372036854775807, 18446744073709551615, 36893488147419103231, 73786976294838206463, 147573952589676412927, 147573952589676412927, 147573952589676412927, 147573952589676412927, 147573952589676412927, 147573952589676412927, 8411715297611555536895, 18741891978888904441855, 147573952589676412927, 147573952589676412927, 147573952589676412927, 147573952589676412927, 566536403991767749230591, 147573952589676412927, 147573952589676412927, 147573952589676412927, 9633480051101486559526911, 19342665539881477118885887, 38685626227668133590597631, 77371252455336267181195263, 154742504910672534362390527, 309485009821345068724781055, 618970019642690137449562111, 618970019642690137449562111, 618970019642690137449562111, 618970019642690137449562111, 5570730176784211237046059007, 19188070608923394260936425471, 38995111237489478659322413055, 79228162514264337593543950335, 158456325028528675187087900671, 316912650057057350374175801343]
theorem syzygylaw05_RatioField.tab7 : rtab .any (opsOf Try.f10 7) = syzygylaw05_RatioField.T7 := by kernel_rfl
theorem syzygylaw05_RatioField.jKi : jAL syzygylaw05_RatioField.T7.2 syzygylaw05_RatioField.B7 = true := by kernel_rfl
def syzygylaw05_RatioField.T12 : Bool × List (List Nat × List Nat) := (true, [([], []), ([0], [0]), ([1], [1]), ([2], [2]), ([2], [2]), ([2], [2]), ([2], [2]), ([4, 5, 6, 2, 2], [2, 4, 5, 6]), ([7, 2], [2]), ([3, 7, 8, 8, 2], [2, 3, 7, 8]), ([2, 9], [2, 9]), ([10, 9], [10]), ([11], [11]), ([11], [11]), ([11], [11]), ([11], [11]), ([11], [11]), ([14, 15, 16, 11, 11], [11, 14, 15, 16]), ([11], [11]), ([13, 17, 18, 17, 11], [11, 13, 17, 18]), ([11], [11]), ([12, 19, 20, 19, 11], [11, 12, 19, 20]), ([11, 21], [11, 21]), ([22, 21, 0, 1, 2, 3, 4, 5, 6, 7, 8, 9, 10, 11, 12, 13, 14, 15, 16, 17, 18, 19, 20, 21, 22], [22])])
def syzygylaw05_RatioField.B12 : List Nat := [0, 1, 3, 7, 7, 7, 7, 119, 247, 511, 1023, 2047, 4095, 4095, 4095, 4095, 4095, 118783, 4095, 520191, 4095, 2097151, 4194303, 8388607]
theorem syzygylaw05_RatioField.jIK : rtab .any (opsOf Try.f10 12) = syzygylaw05_RatioField.T12 := by kernel_rfl
theorem syzygylaw05_RatioField.jGY : jAL syzygylaw05_RatioField.T12.2 syzygylaw05_RatioField.B12 = true := by kernel_rfl
def syzygylaw05_RatioField.Field (k : Nat) (a0_0 a0_1 a0_2 : Bool) (a0_3 a0_4 a0_5 a0_6 a0_7 a0_8 : Int) : Prop := ∃ (a b c ab ba pab pba abc1 bc abc2 pabc1 pbc pabc2 d1 pac d2 na z o0 ia ui o1 wi : Bool × List Int × List Int) (ec : Int) (zb : Bool), jEG k a0_0 a0_3 a0_6 a ∧ jEG k a0_1 a0_4 a0_7 b ∧ jEG k a0_2 a0_5 a0_8 c ∧ zP.f k = some true ∧ jDg k a b ab ∧ jDg k b a ba ∧ jCk k a b pab ∧ jCk k b a pba ∧ jDg k ab c abc1 ∧ jDg k b c bc ∧ jDg k a bc abc2 ∧ jCk k pab c pabc1 ∧ jCk k b c pbc ∧ jCk k a pbc pabc2 ∧ jCk k a bc d1 ∧ jCk k a c pac ∧ jDg k pab pac d2 ∧ jKJ a na ∧ jDg k a na z ∧ OfIs 0 o0 ∧ jBZ k ab ba ∧ jBZ k pab pba ∧ jBZ k abc1 abc2 ∧ jBZ k pabc1 pabc2 ∧ jBZ k d1 d2 ∧ jBZ k z o0 ∧ zF.f a.1 a.2.1 a.2.2 = some zb ∧ jHm k a ia ec ∧ (zb = true → ec = 30) ∧ (zb = false → ec = 0 ∧ jCk k a ia ui ∧ OfIs 1 o1 ∧ jBZ k ui o1 ∧ jCk k pba ia wi ∧ jBZ k wi b)
def syzygylaw05_RatioField.wf68 (x : S68) : Prop := True ∧ (True ∧ True)
def syzygylaw05_RatioField.wf69 (x : S69) : Prop := (Lit.int .u32 x.f0).wf = true ∧ ((Lit.int .u32 x.f1).wf = true ∧ (Lit.int .u32 x.f2).wf = true)
def syzygylaw05_RatioField.wf71 (x : S71) : Prop := syzygylaw05_RatioField.wf68 x.f0 ∧ (syzygylaw05_RatioField.wf69 x.f1 ∧ syzygylaw05_RatioField.wf69 x.f2)
def syzygylaw05_RatioField.Pure : Prop := ∀ (a0_0 a0_1 a0_2 : Bool) (a0_3 a0_4 a0_5 a0_6 a0_7 a0_8 : Int), syzygylaw05_RatioField.wf71 (⟨(⟨a0_0, a0_1, a0_2⟩ : S68), (⟨a0_3, a0_4, a0_5⟩ : S69), (⟨a0_6, a0_7, a0_8⟩ : S69)⟩ : S71) → ∃ k, syzygylaw05_RatioField.Field k a0_0 a0_1 a0_2 a0_3 a0_4 a0_5 a0_6 a0_7 a0_8
set_option maxHeartbeats 32000000 in
theorem syzygylaw05_RatioField.walk (P : syzygylaw05_RatioField.Pure) (a0_0 a0_1 a0_2 : Bool) (a0_3 a0_4 a0_5 a0_6 a0_7 a0_8 : Int) (w : World)  (f0 : syzygylaw05_RatioField.wf71 (⟨(⟨a0_0, a0_1, a0_2⟩ : S68), (⟨a0_3, a0_4, a0_5⟩ : S69), (⟨a0_6, a0_7, a0_8⟩ : S69)⟩ : S71)) :
  Calls Try.prog 10 #[.agg #[.bool a0_0, .bool a0_1, .bool a0_2, .int .u32 a0_3, .int .u32 a0_4, .int .u32 a0_5, .int .u32 a0_6, .int .u32 a0_7, .int .u32 a0_8]] w fun e w' => e = .returned (.bool true) ∧ Below w.heap.size w w' := by
 obtain ⟨k, a, b, c, ab, ba, pab, pba, abc1, bc, abc2, pabc1, pbc, pabc2, d1, pac, d2, na, z, o0, ia, ui, o1, wi, ec, zb, hf_a, hf_b, hf_c, hf_shown, hf_ab, hf_ba, hf_pab, hf_pba, hf_abc1, hf_bc, hf_abc2, hf_pabc1, hf_pbc, hf_pabc2, hf_d1, hf_pac, hf_d2, hf_na, hf_z, hf_o0, hf_same_ab_ba, hf_same_pab_pba, hf_same_abc1_abc2, hf_same_pabc1_pabc2, hf_same_d1_d2, hf_same_z_o0, hf_zero, hf_inv, hf_zt, hf_zf⟩ := P a0_0 a0_1 a0_2 a0_3 a0_4 a0_5 a0_6 a0_7 a0_8 f0
 have HF_a := jA.mk hf_a
 have HF_b := jA.mk hf_b
 have HF_c := jA.mk hf_c
 have HF_shown := jA.mk hf_shown
 have HF_ab := jA.mk hf_ab
 have HF_ba := jA.mk hf_ba
 have HF_pab := jA.mk hf_pab
 have HF_pba := jA.mk hf_pba
 have HF_abc1 := jA.mk hf_abc1
 have HF_bc := jA.mk hf_bc
 have HF_abc2 := jA.mk hf_abc2
 have HF_pabc1 := jA.mk hf_pabc1
 have HF_pbc := jA.mk hf_pbc
 have HF_pabc2 := jA.mk hf_pabc2
 have HF_d1 := jA.mk hf_d1
 have HF_pac := jA.mk hf_pac
 have HF_d2 := jA.mk hf_d2
 have HF_na := jA.mk hf_na
 have HF_z := jA.mk hf_z
 have HF_o0 := jA.mk hf_o0
 have HF_same_ab_ba := jA.mk hf_same_ab_ba
 have HF_same_pab_pba := jA.mk hf_same_pab_pba
 have HF_same_abc1_abc2 := jA.mk hf_same_abc1_abc2
 have HF_same_pabc1_pabc2 := jA.mk hf_same_pabc1_pabc2
 have HF_same_d1_d2 := jA.mk hf_same_d1_d2
 have HF_same_z_o0 := jA.mk hf_same_z_o0
 have HF_zero := jA.mk hf_zero
 have HF_inv := jA.mk hf_inv
 have HF_zt := jA.mk hf_zt
 have HF_zf := jA.mk hf_zf
 clear P f0 hf_a hf_b hf_c hf_shown hf_ab hf_ba hf_pab hf_pba hf_abc1 hf_bc hf_abc2 hf_pabc1 hf_pbc hf_pabc2 hf_d1 hf_pac hf_d2 hf_na hf_z hf_o0 hf_same_ab_ba hf_same_pab_pba hf_same_abc1_abc2 hf_same_pabc1_pabc2 hf_same_d1_d2 hf_same_z_o0 hf_zero hf_inv hf_zt hf_zf
 have hu44 := Try.underlying44
 have hnot : ∀ (x : Bool) (w : World), (Op.unary .not (.bool x)).run Try.prog w = .ok (.bool (!x)) w := fun _ _ => rfl
 have HT := jA.mk (jAN w (.cells #[.bool a0_0, .bool a0_1, .bool a0_2, .int .u32 a0_3, .int .u32 a0_4, .int .u32 a0_5, .int .u32 a0_6, .int .u32 a0_7, .int .u32 a0_8] 71))
 have HD := jA.mk (jk (Below.refl _ w) (.cells #[.bool a0_0, .bool a0_1, .bool a0_2, .int .u32 a0_3, .int .u32 a0_4, .int .u32 a0_5, .int .u32 a0_6, .int .u32 a0_7, .int .u32 a0_8] 71))
 go_enter Try.func10, Try.ntmps10
 go_upto_region 1 with (fail)
 generalize w.alloc (.cells #[.bool a0_0, .bool a0_1, .bool a0_2, .int .u32 a0_3, .int .u32 a0_4, .int .u32 a0_5, .int .u32 a0_6, .int .u32 a0_7, .int .u32 a0_8] 71) = u1 at HT HD ⊢
 have t0 : u1.cell? ⟨w.heap.size, 0, none⟩ = some (.bool a0_0) := (jB HT.out 0).trans rfl
 have t3 : u1.cell? ⟨w.heap.size, 3, none⟩ = some (.int .u32 a0_3) := (jB HT.out 3).trans rfl
 have t6 : u1.cell? ⟨w.heap.size, 6, none⟩ = some (.int .u32 a0_6) := (jB HT.out 6).trans rfl
 go_wp2_with fail
 refine (jEQ HF_a.out _).mono ?_
 rintro e u2 ⟨v, rfl, hz, hb⟩
 obtain ⟨aA, aC, aB, aD, rfl, hq⟩ := hz
 have HR_a := jA.mk (show jAp u2 (.agg #[.bool a.1, .slice aA a.2.1.length aC, .slice aB a.2.2.length aD]) a from ⟨_, _, _, _, rfl, hq⟩)
 replace HT := jA.mk (jJ HT.out hb)
 replace HD := jA.mk (jI HD.out hb)
 clear hb hq t0 t3 t6
 go_upto_region 2 with (fail)
 have HK_a := jA.mk (jAN u2 (.cells #[.bool a.1, .slice aA a.2.1.length aC, .slice aB a.2.2.length aD] 44))
 replace HT := jA.mk (vH HT.out (.cells #[.bool a.1, .slice aA a.2.1.length aC, .slice aB a.2.2.length aD] 44))
 replace HD := jA.mk (jk HD.out (.cells #[.bool a.1, .slice aA a.2.1.length aC, .slice aB a.2.2.length aD] 44))
 replace HR_a := jA.mk (HR_a.out.below (jk (Below.refl _ _) (.cells #[.bool a.1, .slice aA a.2.1.length aC, .slice aB a.2.2.length aD] 44)))
 generalize u2.alloc (.cells #[.bool a.1, .slice aA a.2.1.length aC, .slice aB a.2.2.length aD] 44) = u3 at HT HD HK_a HR_a ⊢
 generalize u2.heap.size = ga at HK_a ⊢
 have t1 : u3.cell? ⟨w.heap.size, 1, none⟩ = some (.bool a0_1) := (jB HT.out 1).trans rfl
 have t4 : u3.cell? ⟨w.heap.size, 4, none⟩ = some (.int .u32 a0_4) := (jB HT.out 4).trans rfl
 have t7 : u3.cell? ⟨w.heap.size, 7, none⟩ = some (.int .u32 a0_7) := (jB HT.out 7).trans rfl
 go_wp2_with fail
 refine (jEQ HF_b.out _).mono ?_
 rintro e u4 ⟨v, rfl, hz, hb⟩
 obtain ⟨bA, bC, bB, bD, rfl, hq⟩ := hz
 have HR_b := jA.mk (show jAp u4 (.agg #[.bool b.1, .slice bA b.2.1.length bC, .slice bB b.2.2.length bD]) b from ⟨_, _, _, _, rfl, hq⟩)
 replace HT := jA.mk (jJ HT.out hb)
 replace HD := jA.mk (jI HD.out hb)
 replace HK_a := jA.mk (jJ HK_a.out hb)
 replace HR_a := jA.mk (HR_a.out.below hb)
 clear hb hq t1 t4 t7
 go_upto_region 3 with (fail)
 have HK_b := jA.mk (jAN u4 (.cells #[.bool b.1, .slice bA b.2.1.length bC, .slice bB b.2.2.length bD] 44))
 replace HT := jA.mk (vH HT.out (.cells #[.bool b.1, .slice bA b.2.1.length bC, .slice bB b.2.2.length bD] 44))
 replace HD := jA.mk (jk HD.out (.cells #[.bool b.1, .slice bA b.2.1.length bC, .slice bB b.2.2.length bD] 44))
 replace HR_b := jA.mk (HR_b.out.below (jk (Below.refl _ _) (.cells #[.bool b.1, .slice bA b.2.1.length bC, .slice bB b.2.2.length bD] 44)))
 replace HK_a := jA.mk (vH HK_a.out (.cells #[.bool b.1, .slice bA b.2.1.length bC, .slice bB b.2.2.length bD] 44))
 replace HR_a := jA.mk (HR_a.out.below (jk (Below.refl _ _) (.cells #[.bool b.1, .slice bA b.2.1.length bC, .slice bB b.2.2.length bD] 44)))
 generalize u4.alloc (.cells #[.bool b.1, .slice bA b.2.1.length bC, .slice bB b.2.2.length bD] 44) = u5 at HT HD HK_a HR_a HK_b HR_b ⊢
 generalize u4.heap.size = gb at HK_b ⊢
 have t2 : u5.cell? ⟨w.heap.size, 2, none⟩ = some (.bool a0_2) := (jB HT.out 2).trans rfl
 have t5 : u5.cell? ⟨w.heap.size, 5, none⟩ = some (.int .u32 a0_5) := (jB HT.out 5).trans rfl
 have t8 : u5.cell? ⟨w.heap.size, 8, none⟩ = some (.int .u32 a0_8) := (jB HT.out 8).trans rfl
 go_wp2_with fail
 refine (jEQ HF_c.out _).mono ?_
 rintro e u6 ⟨v, rfl, hz, hb⟩
 obtain ⟨cA, cC, cB, cD, rfl, hq⟩ := hz
 have HR_c := jA.mk (show jAp u6 (.agg #[.bool c.1, .slice cA c.2.1.length cC, .slice cB c.2.2.length cD]) c from ⟨_, _, _, _, rfl, hq⟩)
 replace HT := jA.mk (jJ HT.out hb)
 replace HD := jA.mk (jI HD.out hb)
 replace HK_a := jA.mk (jJ HK_a.out hb)
 replace HR_a := jA.mk (HR_a.out.below hb)
 replace HK_b := jA.mk (jJ HK_b.out hb)
 replace HR_b := jA.mk (HR_b.out.below hb)
 clear hb hq t2 t5 t8
 go_upto_region 7 with (fail)
 have HK_c := jA.mk (jAN u6 (.cells #[.bool c.1, .slice cA c.2.1.length cC, .slice cB c.2.2.length cD] 44))
 replace HT := jA.mk (vH HT.out (.cells #[.bool c.1, .slice cA c.2.1.length cC, .slice cB c.2.2.length cD] 44))
 replace HD := jA.mk (jk HD.out (.cells #[.bool c.1, .slice cA c.2.1.length cC, .slice cB c.2.2.length cD] 44))
 replace HR_c := jA.mk (HR_c.out.below (jk (Below.refl _ _) (.cells #[.bool c.1, .slice cA c.2.1.length cC, .slice cB c.2.2.length cD] 44)))
 replace HK_a := jA.mk (vH HK_a.out (.cells #[.bool c.1, .slice cA c.2.1.length cC, .slice cB c.2.2.length cD] 44))
 replace HR_a := jA.mk (HR_a.out.below (jk (Below.refl _ _) (.cells #[.bool c.1, .slice cA c.2.1.length cC, .slice cB c.2.2.length cD] 44)))
 replace HK_b := jA.mk (vH HK_b.out (.cells #[.bool c.1, .slice cA c.2.1.length cC, .slice cB c.2.2.length cD] 44))
 replace HR_b := jA.mk (HR_b.out.below (jk (Below.refl _ _) (.cells #[.bool c.1, .slice cA c.2.1.length cC, .slice cB c.2.2.length cD] 44)))
 generalize u6.alloc (.cells #[.bool c.1, .slice cA c.2.1.length cC, .slice cB c.2.2.length cD] 44) = u7 at HT HD HK_a HR_a HK_b HR_b HK_c HR_c ⊢
 generalize u6.heap.size = gc at HK_c ⊢
 clear HT
 replace HK_a := jA.mk (vF HK_a.out)
 replace HK_b := jA.mk (vF HK_b.out)
 replace HK_c := jA.mk (vF HK_c.out)
 replace HR_a := jA.mk (HR_a.out.below (zI (Below.refl _ _)))
 replace HR_b := jA.mk (HR_b.out.below (zI (Below.refl _ _)))
 replace HR_c := jA.mk (HR_c.out.below (zI (Below.refl _ _)))
 replace HD := jA.mk (zI HD.out)
 refine jAU (n := 99) (S := fun w' => w'.cell? ⟨ga, 0, none⟩ = some (.bool a.1) ∧ w'.cell? ⟨ga, 1, none⟩ = some (.slice aA a.2.1.length aC) ∧ w'.cell? ⟨ga, 2, none⟩ = some (.slice aB a.2.2.length aD) ∧ w'.cell? ⟨gb, 0, none⟩ = some (.bool b.1) ∧ w'.cell? ⟨gb, 1, none⟩ = some (.slice bA b.2.1.length bC) ∧ w'.cell? ⟨gb, 2, none⟩ = some (.slice bB b.2.2.length bD) ∧ w'.cell? ⟨gc, 0, none⟩ = some (.bool c.1) ∧ w'.cell? ⟨gc, 1, none⟩ = some (.slice cA c.2.1.length cC) ∧ w'.cell? ⟨gc, 2, none⟩ = some (.slice cB c.2.2.length cD)) (ds := []) #[false, false, false, false, false, false, false, false, false, false, false, false, false, false, false, false, false, false, false, false, false, false, false, false, false, false, false, false, false, false, false, false, false, false, false, false, false, false, false, false, false, false, false, false, false, false, false, false, false, false, false, false, false, false, false, false, false, false, false, false, false, false, false, false, false, false, false, false, false, false, false, false, false, false, false, false, false, false, false, false, false, false, false, false, false, false, false, false, false, false, false, false, false, false, false, false, false, false, false] kr_ rfl rfl ⟨(jB HK_a.out 0).trans rfl, (jB HK_a.out 1).trans rfl, (jB HK_a.out 2).trans rfl, (jB HK_b.out 0).trans rfl, (jB HK_b.out 1).trans rfl, (jB HK_b.out 2).trans rfl, (jB HK_c.out 0).trans rfl, (jB HK_c.out 1).trans rfl, (jB HK_c.out 2).trans rfl⟩ (fun hHeld => ?_)
 refine qc syzygylaw05_RatioField.tab7 syzygylaw05_RatioField.jKi (fun HT_ HW_ => ?_)
 generalize u7.drew = u10 at HK_a HR_a HK_b HR_b HK_c HR_c HD hHeld ⊢
 refine one_ (i := 0) (N := some 41) (ba_ 99 1) rfl rfl (vv HT_.out kr_) (by decide) (fun K hK => ?_)
 refine jAQ Try.func28 kr_ rfl #[] (by rfl) rfl rfl (by (try simp only [List.map_toArray, List.map_cons, List.map_nil]); first | done | rfl) ?_
 refine (zP.calls k true _ HF_shown.out).mono ?_
 rintro e u11 ⟨rfl, hb⟩
 replace HR_a := jA.mk (HR_a.out.below hb)
 replace HR_b := jA.mk (HR_b.out.below hb)
 replace HR_c := jA.mk (HR_c.out.below hb)
 replace HK_a := jA.mk (jJ HK_a.out hb)
 replace HK_b := jA.mk (jJ HK_b.out hb)
 replace HK_c := jA.mk (jJ HK_c.out hb)
 replace HD := jA.mk (jI HD.out hb)
 refine ⟨_, rfl, ?_⟩
 refine hK.out _ _ ⟨(jB HK_a.out 0).trans rfl, (jB HK_a.out 1).trans rfl, (jB HK_a.out 2).trans rfl, (jB HK_b.out 0).trans rfl, (jB HK_b.out 1).trans rfl, (jB HK_b.out 2).trans rfl, (jB HK_c.out 0).trans rfl, (jB HK_c.out 1).trans rfl, (jB HK_c.out 2).trans rfl⟩ (fun hHeld => ?_)
 clear hK K hb
 refine nm_ ?_
 refine pu_ 1 (some 42) (ba_ 99 3) (jd HT_.out kr_) ?_
 refine pu_ 2 (some 43) (ba_ 99 7) (jd HT_.out kr_) ?_
 refine pu_ 3 (some 44) (ba_ 99 15) (jd HT_.out kr_) ?_
 refine pu_ 4 (some 45) (ba_ 99 31) (jd HT_.out kr_) ?_
 refine tk9_ 5 (some 46) (ba_ 99 63) (jv HT_.out HW_.out kr_) hHeld ?_
 refine tk9_ 6 (some 47) (ba_ 99 127) (jv HT_.out HW_.out kr_) hHeld ?_
 refine pu_ 8 (some 49) (ba_ 99 383) (jd HT_.out kr_) ?_
 refine tk9_ 9 (some 50) (ba_ 99 895) (jv HT_.out HW_.out kr_) hHeld ?_
 refine tk9_ 10 (some 51) (ba_ 99 1919) (jv HT_.out HW_.out kr_) hHeld ?_
 refine one_ (i := 7) (N := some 48) (ba_ 99 2047) rfl rfl (vv HT_.out kr_) (by decide) (fun K hK => ?_)
 refine qX (t := 45) #[] Try.func48 kr_ rfl #[.agg #[.bool a.1, .slice aA a.2.1.length aC, .slice aB a.2.2.length aD], .agg #[.bool b.1, .slice bA b.2.1.length bC, .slice bB b.2.2.length bD]] (by rfl) rfl rfl (by rfl) (by simp only [List.map_toArray, List.map_cons, List.map_nil]; rfl) ?_
 refine (jBl HR_a.out HR_b.out HF_ab.out).mono ?_
 rintro e u12 ⟨vab_2, rfl, hz, hb⟩
 replace HR_a := jA.mk (HR_a.out.below hb)
 replace HR_b := jA.mk (HR_b.out.below hb)
 replace HR_c := jA.mk (HR_c.out.below hb)
 replace HK_a := jA.mk (jJ HK_a.out hb)
 replace HK_b := jA.mk (jJ HK_b.out hb)
 replace HK_c := jA.mk (jJ HK_c.out hb)
 have HR_ab_2 := jA.mk hz
 replace HD := jA.mk (jI HD.out hb)
 refine ⟨_, rfl, ?_⟩
 refine hK.out _ _ ⟨(jB HK_a.out 0).trans rfl, (jB HK_a.out 1).trans rfl, (jB HK_a.out 2).trans rfl, (jB HK_b.out 0).trans rfl, (jB HK_b.out 1).trans rfl, (jB HK_b.out 2).trans rfl, (jB HK_c.out 0).trans rfl, (jB HK_c.out 1).trans rfl, (jB HK_c.out 2).trans rfl⟩ (fun hHeld => ?_)
 clear hK K hb hz
 refine nm_ ?_
 refine one_ (i := 11) (N := some 52) (ba_ 99 4095) rfl rfl (vv HT_.out kr_) (by decide) (fun K hK => ?_)
 refine qX (t := 49) #[] Try.func48 kr_ rfl #[.agg #[.bool b.1, .slice bA b.2.1.length bC, .slice bB b.2.2.length bD], .agg #[.bool a.1, .slice aA a.2.1.length aC, .slice aB a.2.2.length aD]] (by rfl) rfl rfl (by rfl) (by simp only [List.map_toArray, List.map_cons, List.map_nil]; rfl) ?_
 refine (jBl HR_b.out HR_a.out HF_ba.out).mono ?_
 rintro e u13 ⟨vba_3, rfl, hz, hb⟩
 replace HR_a := jA.mk (HR_a.out.below hb)
 replace HR_b := jA.mk (HR_b.out.below hb)
 replace HR_c := jA.mk (HR_c.out.below hb)
 replace HK_a := jA.mk (jJ HK_a.out hb)
 replace HK_b := jA.mk (jJ HK_b.out hb)
 replace HK_c := jA.mk (jJ HK_c.out hb)
 replace HR_ab_2 := jA.mk (HR_ab_2.out.below hb)
 have HR_ba_3 := jA.mk hz
 replace HD := jA.mk (jI HD.out hb)
 refine ⟨_, rfl, ?_⟩
 refine hK.out _ _ ⟨(jB HK_a.out 0).trans rfl, (jB HK_a.out 1).trans rfl, (jB HK_a.out 2).trans rfl, (jB HK_b.out 0).trans rfl, (jB HK_b.out 1).trans rfl, (jB HK_b.out 2).trans rfl, (jB HK_c.out 0).trans rfl, (jB HK_c.out 1).trans rfl, (jB HK_c.out 2).trans rfl⟩ (fun hHeld => ?_)
 clear hK K hb hz
 refine nm_ ?_
 refine one_ (i := 12) (N := some 53) (ba_ 99 8191) rfl rfl (vv HT_.out kr_) (by decide) (fun K hK => ?_)
 refine qX (t := 44) #[] Try.func26 kr_ rfl #[vab_2, vba_3] (by rfl) rfl rfl (by rfl) (by simp only [List.map_toArray, List.map_cons, List.map_nil]; rfl) ?_
 refine (jBJ HR_ab_2.out HR_ba_3.out HF_same_ab_ba.out).mono ?_
 rintro e u14 ⟨rfl, hb⟩
 replace HR_a := jA.mk (HR_a.out.below hb)
 replace HR_b := jA.mk (HR_b.out.below hb)
 replace HR_c := jA.mk (HR_c.out.below hb)
 replace HK_a := jA.mk (jJ HK_a.out hb)
 replace HK_b := jA.mk (jJ HK_b.out hb)
 replace HK_c := jA.mk (jJ HK_c.out hb)
 replace HD := jA.mk (jI HD.out hb)
 refine ⟨_, rfl, ?_⟩
 refine hK.out _ _ ⟨(jB HK_a.out 0).trans rfl, (jB HK_a.out 1).trans rfl, (jB HK_a.out 2).trans rfl, (jB HK_b.out 0).trans rfl, (jB HK_b.out 1).trans rfl, (jB HK_b.out 2).trans rfl, (jB HK_c.out 0).trans rfl, (jB HK_c.out 1).trans rfl, (jB HK_c.out 2).trans rfl⟩ (fun hHeld => ?_)
 clear hK K hb
 refine nm_ ?_
 refine pu_ 13 (some 54) (ba_ 99 16383) (jd HT_.out kr_) ?_
 refine pu_ 14 (some 55) (ba_ 99 32767) (jd HT_.out kr_) ?_
 refine pu_ 15 (some 56) (ba_ 99 65535) (jd HT_.out kr_) ?_
 refine pu_ 16 (some 57) (ba_ 99 131071) (jd HT_.out kr_) ?_
 refine pu_ 17 (some 58) (ba_ 99 262143) (jd HT_.out kr_) ?_
 refine tk9_ 18 (some 59) (ba_ 99 524287) (jv HT_.out HW_.out kr_) hHeld ?_
 refine tk9_ 19 (some 60) (ba_ 99 1048575) (jv HT_.out HW_.out kr_) hHeld ?_
 refine pu_ 21 (some 62) (ba_ 99 3145727) (jd HT_.out kr_) ?_
 refine tk9_ 22 (some 63) (ba_ 99 7340031) (jv HT_.out HW_.out kr_) hHeld ?_
 refine tk9_ 23 (some 64) (ba_ 99 15728639) (jv HT_.out HW_.out kr_) hHeld ?_
 refine one_ (i := 20) (N := some 61) (ba_ 99 16777215) rfl rfl (vv HT_.out kr_) (by decide) (fun K hK => ?_)
 refine qX (t := 58) #[] Try.func50 kr_ rfl #[.agg #[.bool a.1, .slice aA a.2.1.length aC, .slice aB a.2.2.length aD], .agg #[.bool b.1, .slice bA b.2.1.length bC, .slice bB b.2.2.length bD]] (by rfl) rfl rfl (by rfl) (by simp only [List.map_toArray, List.map_cons, List.map_nil]; rfl) ?_
 refine (jBF HR_a.out HR_b.out HF_pab.out).mono ?_
 rintro e u15 ⟨vpab_5, rfl, hz, hb⟩
 replace HR_a := jA.mk (HR_a.out.below hb)
 replace HR_b := jA.mk (HR_b.out.below hb)
 replace HR_c := jA.mk (HR_c.out.below hb)
 replace HK_a := jA.mk (jJ HK_a.out hb)
 replace HK_b := jA.mk (jJ HK_b.out hb)
 replace HK_c := jA.mk (jJ HK_c.out hb)
 have HR_pab_5 := jA.mk hz
 replace HD := jA.mk (jI HD.out hb)
 refine ⟨_, rfl, ?_⟩
 refine hK.out _ _ ⟨(jB HK_a.out 0).trans rfl, (jB HK_a.out 1).trans rfl, (jB HK_a.out 2).trans rfl, (jB HK_b.out 0).trans rfl, (jB HK_b.out 1).trans rfl, (jB HK_b.out 2).trans rfl, (jB HK_c.out 0).trans rfl, (jB HK_c.out 1).trans rfl, (jB HK_c.out 2).trans rfl⟩ (fun hHeld => ?_)
 clear hK K hb hz
 refine nm_ ?_
 refine one_ (i := 24) (N := some 65) (ba_ 99 33554431) rfl rfl (vv HT_.out kr_) (by decide) (fun K hK => ?_)
 refine qX (t := 62) #[] Try.func50 kr_ rfl #[.agg #[.bool b.1, .slice bA b.2.1.length bC, .slice bB b.2.2.length bD], .agg #[.bool a.1, .slice aA a.2.1.length aC, .slice aB a.2.2.length aD]] (by rfl) rfl rfl (by rfl) (by simp only [List.map_toArray, List.map_cons, List.map_nil]; rfl) ?_
 refine (jBF HR_b.out HR_a.out HF_pba.out).mono ?_
 rintro e u16 ⟨vpba_6, rfl, hz, hb⟩
 replace HR_a := jA.mk (HR_a.out.below hb)
 replace HR_b := jA.mk (HR_b.out.below hb)
 replace HR_c := jA.mk (HR_c.out.below hb)
 replace HK_a := jA.mk (jJ HK_a.out hb)
 replace HK_b := jA.mk (jJ HK_b.out hb)
 replace HK_c := jA.mk (jJ HK_c.out hb)
 replace HR_pab_5 := jA.mk (HR_pab_5.out.below hb)
 have HR_pba_6 := jA.mk hz
 replace HD := jA.mk (jI HD.out hb)
 refine ⟨_, rfl, ?_⟩
 refine hK.out _ _ ⟨(jB HK_a.out 0).trans rfl, (jB HK_a.out 1).trans rfl, (jB HK_a.out 2).trans rfl, (jB HK_b.out 0).trans rfl, (jB HK_b.out 1).trans rfl, (jB HK_b.out 2).trans rfl, (jB HK_c.out 0).trans rfl, (jB HK_c.out 1).trans rfl, (jB HK_c.out 2).trans rfl⟩ (fun hHeld => ?_)
 clear hK K hb hz
 refine nm_ ?_
 refine one_ (i := 25) (N := some 66) (ba_ 99 67108863) rfl rfl (vv HT_.out kr_) (by decide) (fun K hK => ?_)
 refine qX (t := 57) #[] Try.func26 kr_ rfl #[vpab_5, vpba_6] (by rfl) rfl rfl (by rfl) (by simp only [List.map_toArray, List.map_cons, List.map_nil]; rfl) ?_
 refine (jBJ HR_pab_5.out HR_pba_6.out HF_same_pab_pba.out).mono ?_
 rintro e u17 ⟨rfl, hb⟩
 replace HR_a := jA.mk (HR_a.out.below hb)
 replace HR_b := jA.mk (HR_b.out.below hb)
 replace HR_c := jA.mk (HR_c.out.below hb)
 replace HK_a := jA.mk (jJ HK_a.out hb)
 replace HK_b := jA.mk (jJ HK_b.out hb)
 replace HK_c := jA.mk (jJ HK_c.out hb)
 replace HD := jA.mk (jI HD.out hb)
 refine ⟨_, rfl, ?_⟩
 refine hK.out _ _ ⟨(jB HK_a.out 0).trans rfl, (jB HK_a.out 1).trans rfl, (jB HK_a.out 2).trans rfl, (jB HK_b.out 0).trans rfl, (jB HK_b.out 1).trans rfl, (jB HK_b.out 2).trans rfl, (jB HK_c.out 0).trans rfl, (jB HK_c.out 1).trans rfl, (jB HK_c.out 2).trans rfl⟩ (fun hHeld => ?_)
 clear hK K hb
 refine nm_ ?_
 refine pu_ 26 (some 67) (ba_ 99 134217727) (jd HT_.out kr_) ?_
 refine pu_ 27 (some 68) (ba_ 99 268435455) (jd HT_.out kr_) ?_
 refine pu_ 28 (some 69) (ba_ 99 536870911) (jd HT_.out kr_) ?_
 refine pu_ 29 (some 70) (ba_ 99 1073741823) (jd HT_.out kr_) ?_
 refine pu_ 30 (some 71) (ba_ 99 2147483647) (jd HT_.out kr_) ?_
 refine pu_ 31 (some 72) (ba_ 99 4294967295) (jd HT_.out kr_) ?_
 refine tk9_ 32 (some 73) (ba_ 99 8589934591) (jv HT_.out HW_.out kr_) hHeld ?_
 refine tk9_ 33 (some 74) (ba_ 99 17179869183) (jv HT_.out HW_.out kr_) hHeld ?_
 refine tk9_ 35 (some 76) (ba_ 99 51539607551) (jv HT_.out HW_.out kr_) hHeld ?_
 refine pu_ 37 (some 78) (ba_ 99 188978561023) (jd HT_.out kr_) ?_
 refine tk9_ 38 (some 79) (ba_ 99 463856467967) (jv HT_.out HW_.out kr_) hHeld ?_
 refine pu_ 39 (some 80) (ba_ 99 1013612281855) (jd HT_.out kr_) ?_
 refine tk9_ 40 (some 81) (ba_ 99 2113123909631) (jv HT_.out HW_.out kr_) hHeld ?_
 refine tk9_ 41 (some 82) (ba_ 99 4312147165183) (jv HT_.out HW_.out kr_) hHeld ?_
 refine one_ (i := 34) (N := some 75) (ba_ 99 4329327034367) rfl rfl (vv HT_.out kr_) (by decide) (fun K hK => ?_)
 refine qX (t := 72) #[] Try.func48 kr_ rfl #[.agg #[.bool a.1, .slice aA a.2.1.length aC, .slice aB a.2.2.length aD], .agg #[.bool b.1, .slice bA b.2.1.length bC, .slice bB b.2.2.length bD]] (by rfl) rfl rfl (by rfl) (by simp only [List.map_toArray, List.map_cons, List.map_nil]; rfl) ?_
 refine (jBl HR_a.out HR_b.out HF_ab.out).mono ?_
 rintro e u18 ⟨vab_8, rfl, hz, hb⟩
 replace HR_a := jA.mk (HR_a.out.below hb)
 replace HR_b := jA.mk (HR_b.out.below hb)
 replace HR_c := jA.mk (HR_c.out.below hb)
 replace HK_a := jA.mk (jJ HK_a.out hb)
 replace HK_b := jA.mk (jJ HK_b.out hb)
 replace HK_c := jA.mk (jJ HK_c.out hb)
 have HR_ab_8 := jA.mk hz
 replace HD := jA.mk (jI HD.out hb)
 refine ⟨_, rfl, ?_⟩
 refine hK.out _ _ ⟨(jB HK_a.out 0).trans rfl, (jB HK_a.out 1).trans rfl, (jB HK_a.out 2).trans rfl, (jB HK_b.out 0).trans rfl, (jB HK_b.out 1).trans rfl, (jB HK_b.out 2).trans rfl, (jB HK_c.out 0).trans rfl, (jB HK_c.out 1).trans rfl, (jB HK_c.out 2).trans rfl⟩ (fun hHeld => ?_)
 clear hK K hb hz
 refine nm_ ?_
 refine one_ (i := 36) (N := some 77) (ba_ 99 4398046511103) rfl rfl (vv HT_.out kr_) (by decide) (fun K hK => ?_)
 refine qX (t := 71) #[] Try.func48 kr_ rfl #[vab_8, .agg #[.bool c.1, .slice cA c.2.1.length cC, .slice cB c.2.2.length cD]] (by rfl) rfl rfl (by rfl) (by simp only [List.map_toArray, List.map_cons, List.map_nil]; rfl) ?_
 refine (jBl HR_ab_8.out HR_c.out HF_abc1.out).mono ?_
 rintro e u19 ⟨vabc1_9, rfl, hz, hb⟩
 replace HR_a := jA.mk (HR_a.out.below hb)
 replace HR_b := jA.mk (HR_b.out.below hb)
 replace HR_c := jA.mk (HR_c.out.below hb)
 replace HK_a := jA.mk (jJ HK_a.out hb)
 replace HK_b := jA.mk (jJ HK_b.out hb)
 replace HK_c := jA.mk (jJ HK_c.out hb)
 have HR_abc1_9 := jA.mk hz
 replace HD := jA.mk (jI HD.out hb)
 refine ⟨_, rfl, ?_⟩
 refine hK.out _ _ ⟨(jB HK_a.out 0).trans rfl, (jB HK_a.out 1).trans rfl, (jB HK_a.out 2).trans rfl, (jB HK_b.out 0).trans rfl, (jB HK_b.out 1).trans rfl, (jB HK_b.out 2).trans rfl, (jB HK_c.out 0).trans rfl, (jB HK_c.out 1).trans rfl, (jB HK_c.out 2).trans rfl⟩ (fun hHeld => ?_)
 clear hK K hb hz
 refine nm_ ?_
 refine one_ (i := 42) (N := some 83) (ba_ 99 8796093022207) rfl rfl (vv HT_.out kr_) (by decide) (fun K hK => ?_)
 refine qX (t := 80) #[] Try.func48 kr_ rfl #[.agg #[.bool b.1, .slice bA b.2.1.length bC, .slice bB b.2.2.length bD], .agg #[.bool c.1, .slice cA c.2.1.length cC, .slice cB c.2.2.length cD]] (by rfl) rfl rfl (by rfl) (by simp only [List.map_toArray, List.map_cons, List.map_nil]; rfl) ?_
 refine (jBl HR_b.out HR_c.out HF_bc.out).mono ?_
 rintro e u20 ⟨vbc_10, rfl, hz, hb⟩
 replace HR_a := jA.mk (HR_a.out.below hb)
 replace HR_b := jA.mk (HR_b.out.below hb)
 replace HR_c := jA.mk (HR_c.out.below hb)
 replace HK_a := jA.mk (jJ HK_a.out hb)
 replace HK_b := jA.mk (jJ HK_b.out hb)
 replace HK_c := jA.mk (jJ HK_c.out hb)
 replace HR_abc1_9 := jA.mk (HR_abc1_9.out.below hb)
 have HR_bc_10 := jA.mk hz
 replace HD := jA.mk (jI HD.out hb)
 refine ⟨_, rfl, ?_⟩
 refine hK.out _ _ ⟨(jB HK_a.out 0).trans rfl, (jB HK_a.out 1).trans rfl, (jB HK_a.out 2).trans rfl, (jB HK_b.out 0).trans rfl, (jB HK_b.out 1).trans rfl, (jB HK_b.out 2).trans rfl, (jB HK_c.out 0).trans rfl, (jB HK_c.out 1).trans rfl, (jB HK_c.out 2).trans rfl⟩ (fun hHeld => ?_)
 clear hK K hb hz
 refine nm_ ?_
 refine one_ (i := 43) (N := some 84) (ba_ 99 17592186044415) rfl rfl (vv HT_.out kr_) (by decide) (fun K hK => ?_)
 refine qX (t := 78) #[] Try.func48 kr_ rfl #[.agg #[.bool a.1, .slice aA a.2.1.length aC, .slice aB a.2.2.length aD], vbc_10] (by rfl) rfl rfl (by rfl) (by simp only [List.map_toArray, List.map_cons, List.map_nil]; rfl) ?_
 refine (jBl HR_a.out HR_bc_10.out HF_abc2.out).mono ?_
 rintro e u21 ⟨vabc2_11, rfl, hz, hb⟩
 replace HR_a := jA.mk (HR_a.out.below hb)
 replace HR_b := jA.mk (HR_b.out.below hb)
 replace HR_c := jA.mk (HR_c.out.below hb)
 replace HK_a := jA.mk (jJ HK_a.out hb)
 replace HK_b := jA.mk (jJ HK_b.out hb)
 replace HK_c := jA.mk (jJ HK_c.out hb)
 replace HR_abc1_9 := jA.mk (HR_abc1_9.out.below hb)
 have HR_abc2_11 := jA.mk hz
 replace HD := jA.mk (jI HD.out hb)
 refine ⟨_, rfl, ?_⟩
 refine hK.out _ _ ⟨(jB HK_a.out 0).trans rfl, (jB HK_a.out 1).trans rfl, (jB HK_a.out 2).trans rfl, (jB HK_b.out 0).trans rfl, (jB HK_b.out 1).trans rfl, (jB HK_b.out 2).trans rfl, (jB HK_c.out 0).trans rfl, (jB HK_c.out 1).trans rfl, (jB HK_c.out 2).trans rfl⟩ (fun hHeld => ?_)
 clear hK K hb hz
 refine nm_ ?_
 refine one_ (i := 44) (N := some 85) (ba_ 99 35184372088831) rfl rfl (vv HT_.out kr_) (by decide) (fun K hK => ?_)
 refine qX (t := 70) #[] Try.func26 kr_ rfl #[vabc1_9, vabc2_11] (by rfl) rfl rfl (by rfl) (by simp only [List.map_toArray, List.map_cons, List.map_nil]; rfl) ?_
 refine (jBJ HR_abc1_9.out HR_abc2_11.out HF_same_abc1_abc2.out).mono ?_
 rintro e u22 ⟨rfl, hb⟩
 replace HR_a := jA.mk (HR_a.out.below hb)
 replace HR_b := jA.mk (HR_b.out.below hb)
 replace HR_c := jA.mk (HR_c.out.below hb)
 replace HK_a := jA.mk (jJ HK_a.out hb)
 replace HK_b := jA.mk (jJ HK_b.out hb)
 replace HK_c := jA.mk (jJ HK_c.out hb)
 replace HD := jA.mk (jI HD.out hb)
 refine ⟨_, rfl, ?_⟩
 refine hK.out _ _ ⟨(jB HK_a.out 0).trans rfl, (jB HK_a.out 1).trans rfl, (jB HK_a.out 2).trans rfl, (jB HK_b.out 0).trans rfl, (jB HK_b.out 1).trans rfl, (jB HK_b.out 2).trans rfl, (jB HK_c.out 0).trans rfl, (jB HK_c.out 1).trans rfl, (jB HK_c.out 2).trans rfl⟩ (fun hHeld => ?_)
 clear hK K hb
 refine nm_ ?_
 refine pu_ 45 (some 86) (ba_ 99 70368744177663) (jd HT_.out kr_) ?_
 refine pu_ 46 (some 87) (ba_ 99 140737488355327) (jd HT_.out kr_) ?_
 refine pu_ 47 (some 88) (ba_ 99 281474976710655) (jd HT_.out kr_) ?_
 refine pu_ 48 (some 89) (ba_ 99 562949953421311) (jd HT_.out kr_) ?_
 refine pu_ 49 (some 90) (ba_ 99 1125899906842623) (jd HT_.out kr_) ?_
 refine pu_ 50 (some 91) (ba_ 99 2251799813685247) (jd HT_.out kr_) ?_
 refine tk9_ 51 (some 92) (ba_ 99 4503599627370495) (jv HT_.out HW_.out kr_) hHeld ?_
 refine tk9_ 52 (some 93) (ba_ 99 9007199254740991) (jv HT_.out HW_.out kr_) hHeld ?_
 refine tk9_ 54 (some 95) (ba_ 99 27021597764222975) (jv HT_.out HW_.out kr_) hHeld ?_
 refine pu_ 56 (some 97) (ba_ 99 99079191802150911) (jd HT_.out kr_) ?_
 refine tk9_ 57 (some 98) (ba_ 99 243194379878006783) (jv HT_.out HW_.out kr_) hHeld ?_
 refine pu_ 58 (some 99) (ba_ 99 531424756029718527) (jd HT_.out kr_) ?_
 refine tk9_ 59 (some 100) (ba_ 99 1107885508333142015) (jv HT_.out HW_.out kr_) hHeld ?_
 refine tk9_ 60 (some 101) (ba_ 99 2260807012939988991) (jv HT_.out HW_.out kr_) hHeld ?_
 refine one_ (i := 53) (N := some 94) (ba_ 99 2269814212194729983) rfl rfl (vv HT_.out kr_) (by decide) (fun K hK => ?_)
 refine qX (t := 91) #[] Try.func50 kr_ rfl #[.agg #[.bool a.1, .slice aA a.2.1.length aC, .slice aB a.2.2.length aD], .agg #[.bool b.1, .slice bA b.2.1.length bC, .slice bB b.2.2.length bD]] (by rfl) rfl rfl (by rfl) (by simp only [List.map_toArray, List.map_cons, List.map_nil]; rfl) ?_
 refine (jBF HR_a.out HR_b.out HF_pab.out).mono ?_
 rintro e u23 ⟨vpab_13, rfl, hz, hb⟩
 replace HR_a := jA.mk (HR_a.out.below hb)
 replace HR_b := jA.mk (HR_b.out.below hb)
 replace HR_c := jA.mk (HR_c.out.below hb)
 replace HK_a := jA.mk (jJ HK_a.out hb)
 replace HK_b := jA.mk (jJ HK_b.out hb)
 replace HK_c := jA.mk (jJ HK_c.out hb)
 have HR_pab_13 := jA.mk hz
 replace HD := jA.mk (jI HD.out hb)
 refine ⟨_, rfl, ?_⟩
 refine hK.out _ _ ⟨(jB HK_a.out 0).trans rfl, (jB HK_a.out 1).trans rfl, (jB HK_a.out 2).trans rfl, (jB HK_b.out 0).trans rfl, (jB HK_b.out 1).trans rfl, (jB HK_b.out 2).trans rfl, (jB HK_c.out 0).trans rfl, (jB HK_c.out 1).trans rfl, (jB HK_c.out 2).trans rfl⟩ (fun hHeld => ?_)
 clear hK K hb hz
 refine nm_ ?_
 refine one_ (i := 55) (N := some 96) (ba_ 99 2305843009213693951) rfl rfl (vv HT_.out kr_) (by decide) (fun K hK => ?_)
 refine qX (t := 90) #[] Try.func50 kr_ rfl #[vpab_13, .agg #[.bool c.1, .slice cA c.2.1.length cC, .slice cB c.2.2.length cD]] (by rfl) rfl rfl (by rfl) (by simp only [List.map_toArray, List.map_cons, List.map_nil]; rfl) ?_
 refine (jBF HR_pab_13.out HR_c.out HF_pabc1.out).mono ?_
 rintro e u24 ⟨vpabc1_14, rfl, hz, hb⟩
 replace HR_a := jA.mk (HR_a.out.below hb)
 replace HR_b := jA.mk (HR_b.out.below hb)
 replace HR_c := jA.mk (HR_c.out.below hb)
 replace HK_a := jA.mk (jJ HK_a.out hb)
 replace HK_b := jA.mk (jJ HK_b.out hb)
 replace HK_c := jA.mk (jJ HK_c.out hb)
 have HR_pabc1_14 := jA.mk hz
 replace HD := jA.mk (jI HD.out hb)
 refine ⟨_, rfl, ?_⟩
 refine hK.out _ _ ⟨(jB HK_a.out 0).trans rfl, (jB HK_a.out 1).trans rfl, (jB HK_a.out 2).trans rfl, (jB HK_b.out 0).trans rfl, (jB HK_b.out 1).trans rfl, (jB HK_b.out 2).trans rfl, (jB HK_c.out 0).trans rfl, (jB HK_c.out 1).trans rfl, (jB HK_c.out 2).trans rfl⟩ (fun hHeld => ?_)
 clear hK K hb hz
 refine nm_ ?_
 refine one_ (i := 61) (N := some 102) (ba_ 99 4611686018427387903) rfl rfl (vv HT_.out kr_) (by decide) (fun K hK => ?_)
 refine qX (t := 99) #[] Try.func50 kr_ rfl #[.agg #[.bool b.1, .slice bA b.2.1.length bC, .slice bB b.2.2.length bD], .agg #[.bool c.1, .slice cA c.2.1.length cC, .slice cB c.2.2.length cD]] (by rfl) rfl rfl (by rfl) (by simp only [List.map_toArray, List.map_cons, List.map_nil]; rfl) ?_
 refine (jBF HR_b.out HR_c.out HF_pbc.out).mono ?_
 rintro e u25 ⟨vpbc_15, rfl, hz, hb⟩
 replace HR_a := jA.mk (HR_a.out.below hb)
 replace HR_b := jA.mk (HR_b.out.below hb)
 replace HR_c := jA.mk (HR_c.out.below hb)
 replace HK_a := jA.mk (jJ HK_a.out hb)
 replace HK_b := jA.mk (jJ HK_b.out hb)
 replace HK_c := jA.mk (jJ HK_c.out hb)
 replace HR_pabc1_14 := jA.mk (HR_pabc1_14.out.below hb)
 have HR_pbc_15 := jA.mk hz
 replace HD := jA.mk (jI HD.out hb)
 refine ⟨_, rfl, ?_⟩
 refine hK.out _ _ ⟨(jB HK_a.out 0).trans rfl, (jB HK_a.out 1).trans rfl, (jB HK_a.out 2).trans rfl, (jB HK_b.out 0).trans rfl, (jB HK_b.out 1).trans rfl, (jB HK_b.out 2).trans rfl, (jB HK_c.out 0).trans rfl, (jB HK_c.out 1).trans rfl, (jB HK_c.out 2).trans rfl⟩ (fun hHeld => ?_)
 clear hK K hb hz
 refine nm_ ?_
 refine one_ (i := 62) (N := some 103) (ba_ 99 9223372036854775807) rfl rfl (vv HT_.out kr_) (by decide) (fun K hK => ?_)
 refine qX (t := 97) #[] Try.func50 kr_ rfl #[.agg #[.bool a.1, .slice aA a.2.1.length aC, .slice aB a.2.2.length aD], vpbc_15] (by rfl) rfl rfl (by rfl) (by simp only [List.map_toArray, List.map_cons, List.map_nil]; rfl) ?_
 refine (jBF HR_a.out HR_pbc_15.out HF_pabc2.out).mono ?_
 rintro e u26 ⟨vpabc2_16, rfl, hz, hb⟩
 replace HR_a := jA.mk (HR_a.out.below hb)
 replace HR_b := jA.mk (HR_b.out.below hb)
 replace HR_c := jA.mk (HR_c.out.below hb)
 replace HK_a := jA.mk (jJ HK_a.out hb)
 replace HK_b := jA.mk (jJ HK_b.out hb)
 replace HK_c := jA.mk (jJ HK_c.out hb)
 replace HR_pabc1_14 := jA.mk (HR_pabc1_14.out.below hb)
 have HR_pabc2_16 := jA.mk hz
 replace HD := jA.mk (jI HD.out hb)
 refine ⟨_, rfl, ?_⟩
 refine hK.out _ _ ⟨(jB HK_a.out 0).trans rfl, (jB HK_a.out 1).trans rfl, (jB HK_a.out 2).trans rfl, (jB HK_b.out 0).trans rfl, (jB HK_b.out 1).trans rfl, (jB HK_b.out 2).trans rfl, (jB HK_c.out 0).trans rfl, (jB HK_c.out 1).trans rfl, (jB HK_c.out 2).trans rfl⟩ (fun hHeld => ?_)
 clear hK K hb hz
 refine nm_ ?_
 refine one_ (i := 63) (N := some 104) (ba_ 99 18446744073709551615) rfl rfl (vv HT_.out kr_) (by decide) (fun K hK => ?_)
 refine qX (t := 89) #[] Try.func26 kr_ rfl #[vpabc1_14, vpabc2_16] (by rfl) rfl rfl (by rfl) (by simp only [List.map_toArray, List.map_cons, List.map_nil]; rfl) ?_
 refine (jBJ HR_pabc1_14.out HR_pabc2_16.out HF_same_pabc1_pabc2.out).mono ?_
 rintro e u27 ⟨rfl, hb⟩
 replace HR_a := jA.mk (HR_a.out.below hb)
 replace HR_b := jA.mk (HR_b.out.below hb)
 replace HR_c := jA.mk (HR_c.out.below hb)
 replace HK_a := jA.mk (jJ HK_a.out hb)
 replace HK_b := jA.mk (jJ HK_b.out hb)
 replace HK_c := jA.mk (jJ HK_c.out hb)
 replace HD := jA.mk (jI HD.out hb)
 refine ⟨_, rfl, ?_⟩
 refine hK.out _ _ ⟨(jB HK_a.out 0).trans rfl, (jB HK_a.out 1).trans rfl, (jB HK_a.out 2).trans rfl, (jB HK_b.out 0).trans rfl, (jB HK_b.out 1).trans rfl, (jB HK_b.out 2).trans rfl, (jB HK_c.out 0).trans rfl, (jB HK_c.out 1).trans rfl, (jB HK_c.out 2).trans rfl⟩ (fun hHeld => ?_)
 clear hK K hb
 refine nm_ ?_
 refine pu_ 64 (some 105) (ba_ 99 36893488147419103231) (jd HT_.out kr_) ?_
 refine pu_ 65 (some 106) (ba_ 99 73786976294838206463) (jd HT_.out kr_) ?_
 refine pu_ 66 (some 107) (ba_ 99 147573952589676412927) (jd HT_.out kr_) ?_
 refine pu_ 67 (some 108) (ba_ 99 295147905179352825855) (jd HT_.out kr_) ?_
 refine pu_ 68 (some 109) (ba_ 99 590295810358705651711) (jd HT_.out kr_) ?_
 refine tk9_ 69 (some 110) (ba_ 99 1180591620717411303423) (jv HT_.out HW_.out kr_) hHeld ?_
 refine pu_ 70 (some 111) (ba_ 99 2361183241434822606847) (jd HT_.out kr_) ?_
 refine tk9_ 71 (some 112) (ba_ 99 4722366482869645213695) (jv HT_.out HW_.out kr_) hHeld ?_
 refine tk9_ 72 (some 113) (ba_ 99 9444732965739290427391) (jv HT_.out HW_.out kr_) hHeld ?_
 refine pu_ 75 (some 116) (ba_ 99 47223664828696452136959) (jd HT_.out kr_) ?_
 refine pu_ 76 (some 117) (ba_ 99 122781528554610775556095) (jd HT_.out kr_) ?_
 refine tk9_ 77 (some 118) (ba_ 99 273897256006439422394367) (jv HT_.out HW_.out kr_) hHeld ?_
 refine tk9_ 78 (some 119) (ba_ 99 576128710910096716070911) (jv HT_.out HW_.out kr_) hHeld ?_
 refine pu_ 80 (some 121) (ba_ 99 1785054530524725890777087) (jd HT_.out kr_) ?_
 refine tk9_ 81 (some 122) (ba_ 99 4202906169753984240189439) (jv HT_.out HW_.out kr_) hHeld ?_
 refine tk9_ 82 (some 123) (ba_ 99 9038609448212500939014143) (jv HT_.out HW_.out kr_) hHeld ?_
 refine one_ (i := 73) (N := some 114) (ba_ 99 9048054181178240229441535) rfl rfl (vv HT_.out kr_) (by decide) (fun K hK => ?_)
 refine qX (t := 111) #[] Try.func48 kr_ rfl #[.agg #[.bool b.1, .slice bA b.2.1.length bC, .slice bB b.2.2.length bD], .agg #[.bool c.1, .slice cA c.2.1.length cC, .slice cB c.2.2.length cD]] (by rfl) rfl rfl (by rfl) (by simp only [List.map_toArray, List.map_cons, List.map_nil]; rfl) ?_
 refine (jBl HR_b.out HR_c.out HF_bc.out).mono ?_
 rintro e u28 ⟨vbc_18, rfl, hz, hb⟩
 replace HR_a := jA.mk (HR_a.out.below hb)
 replace HR_b := jA.mk (HR_b.out.below hb)
 replace HR_c := jA.mk (HR_c.out.below hb)
 replace HK_a := jA.mk (jJ HK_a.out hb)
 replace HK_b := jA.mk (jJ HK_b.out hb)
 replace HK_c := jA.mk (jJ HK_c.out hb)
 have HR_bc_18 := jA.mk hz
 replace HD := jA.mk (jI HD.out hb)
 refine ⟨_, rfl, ?_⟩
 refine hK.out _ _ ⟨(jB HK_a.out 0).trans rfl, (jB HK_a.out 1).trans rfl, (jB HK_a.out 2).trans rfl, (jB HK_b.out 0).trans rfl, (jB HK_b.out 1).trans rfl, (jB HK_b.out 2).trans rfl, (jB HK_c.out 0).trans rfl, (jB HK_c.out 1).trans rfl, (jB HK_c.out 2).trans rfl⟩ (fun hHeld => ?_)
 clear hK K hb hz
 refine nm_ ?_
 refine one_ (i := 74) (N := some 115) (ba_ 99 9066943647109718810296319) rfl rfl (vv HT_.out kr_) (by decide) (fun K hK => ?_)
 refine qX (t := 109) #[] Try.func50 kr_ rfl #[.agg #[.bool a.1, .slice aA a.2.1.length aC, .slice aB a.2.2.length aD], vbc_18] (by rfl) rfl rfl (by rfl) (by simp only [List.map_toArray, List.map_cons, List.map_nil]; rfl) ?_
 refine (jBF HR_a.out HR_bc_18.out HF_d1.out).mono ?_
 rintro e u29 ⟨vd1_19, rfl, hz, hb⟩
 replace HR_a := jA.mk (HR_a.out.below hb)
 replace HR_b := jA.mk (HR_b.out.below hb)
 replace HR_c := jA.mk (HR_c.out.below hb)
 replace HK_a := jA.mk (jJ HK_a.out hb)
 replace HK_b := jA.mk (jJ HK_b.out hb)
 replace HK_c := jA.mk (jJ HK_c.out hb)
 have HR_d1_19 := jA.mk hz
 replace HD := jA.mk (jI HD.out hb)
 refine ⟨_, rfl, ?_⟩
 refine hK.out _ _ ⟨(jB HK_a.out 0).trans rfl, (jB HK_a.out 1).trans rfl, (jB HK_a.out 2).trans rfl, (jB HK_b.out 0).trans rfl, (jB HK_b.out 1).trans rfl, (jB HK_b.out 2).trans rfl, (jB HK_c.out 0).trans rfl, (jB HK_c.out 1).trans rfl, (jB HK_c.out 2).trans rfl⟩ (fun hHeld => ?_)
 clear hK K hb hz
 refine nm_ ?_
 refine one_ (i := 79) (N := some 120) (ba_ 99 9671406556917033397649407) rfl rfl (vv HT_.out kr_) (by decide) (fun K hK => ?_)
 refine qX (t := 117) #[] Try.func50 kr_ rfl #[.agg #[.bool a.1, .slice aA a.2.1.length aC, .slice aB a.2.2.length aD], .agg #[.bool b.1, .slice bA b.2.1.length bC, .slice bB b.2.2.length bD]] (by rfl) rfl rfl (by rfl) (by simp only [List.map_toArray, List.map_cons, List.map_nil]; rfl) ?_
 refine (jBF HR_a.out HR_b.out HF_pab.out).mono ?_
 rintro e u30 ⟨vpab_20, rfl, hz, hb⟩
 replace HR_a := jA.mk (HR_a.out.below hb)
 replace HR_b := jA.mk (HR_b.out.below hb)
 replace HR_c := jA.mk (HR_c.out.below hb)
 replace HK_a := jA.mk (jJ HK_a.out hb)
 replace HK_b := jA.mk (jJ HK_b.out hb)
 replace HK_c := jA.mk (jJ HK_c.out hb)
 replace HR_d1_19 := jA.mk (HR_d1_19.out.below hb)
 have HR_pab_20 := jA.mk hz
 replace HD := jA.mk (jI HD.out hb)
 refine ⟨_, rfl, ?_⟩
 refine hK.out _ _ ⟨(jB HK_a.out 0).trans rfl, (jB HK_a.out 1).trans rfl, (jB HK_a.out 2).trans rfl, (jB HK_b.out 0).trans rfl, (jB HK_b.out 1).trans rfl, (jB HK_b.out 2).trans rfl, (jB HK_c.out 0).trans rfl, (jB HK_c.out 1).trans rfl, (jB HK_c.out 2).trans rfl⟩ (fun hHeld => ?_)
 clear hK K hb hz
 refine nm_ ?_
 refine one_ (i := 83) (N := some 124) (ba_ 99 19342813113834066795298815) rfl rfl (vv HT_.out kr_) (by decide) (fun K hK => ?_)
 refine qX (t := 121) #[] Try.func50 kr_ rfl #[.agg #[.bool a.1, .slice aA a.2.1.length aC, .slice aB a.2.2.length aD], .agg #[.bool c.1, .slice cA c.2.1.length cC, .slice cB c.2.2.length cD]] (by rfl) rfl rfl (by rfl) (by simp only [List.map_toArray, List.map_cons, List.map_nil]; rfl) ?_
 refine (jBF HR_a.out HR_c.out HF_pac.out).mono ?_
 rintro e u31 ⟨vpac_21, rfl, hz, hb⟩
 replace HR_a := jA.mk (HR_a.out.below hb)
 replace HR_b := jA.mk (HR_b.out.below hb)
 replace HR_c := jA.mk (HR_c.out.below hb)
 replace HK_a := jA.mk (jJ HK_a.out hb)
 replace HK_b := jA.mk (jJ HK_b.out hb)
 replace HK_c := jA.mk (jJ HK_c.out hb)
 replace HR_d1_19 := jA.mk (HR_d1_19.out.below hb)
 replace HR_pab_20 := jA.mk (HR_pab_20.out.below hb)
 have HR_pac_21 := jA.mk hz
 replace HD := jA.mk (jI HD.out hb)
 refine ⟨_, rfl, ?_⟩
 refine hK.out _ _ ⟨(jB HK_a.out 0).trans rfl, (jB HK_a.out 1).trans rfl, (jB HK_a.out 2).trans rfl, (jB HK_b.out 0).trans rfl, (jB HK_b.out 1).trans rfl, (jB HK_b.out 2).trans rfl, (jB HK_c.out 0).trans rfl, (jB HK_c.out 1).trans rfl, (jB HK_c.out 2).trans rfl⟩ (fun hHeld => ?_)
 clear hK K hb hz
 refine nm_ ?_
 refine one_ (i := 84) (N := some 125) (ba_ 99 38685626227668133590597631) rfl rfl (vv HT_.out kr_) (by decide) (fun K hK => ?_)
 refine qX (t := 116) #[] Try.func48 kr_ rfl #[vpab_20, vpac_21] (by rfl) rfl rfl (by rfl) (by simp only [List.map_toArray, List.map_cons, List.map_nil]; rfl) ?_
 refine (jBl HR_pab_20.out HR_pac_21.out HF_d2.out).mono ?_
 rintro e u32 ⟨vd2_22, rfl, hz, hb⟩
 replace HR_a := jA.mk (HR_a.out.below hb)
 replace HR_b := jA.mk (HR_b.out.below hb)
 replace HR_c := jA.mk (HR_c.out.below hb)
 replace HK_a := jA.mk (jJ HK_a.out hb)
 replace HK_b := jA.mk (jJ HK_b.out hb)
 replace HK_c := jA.mk (jJ HK_c.out hb)
 replace HR_d1_19 := jA.mk (HR_d1_19.out.below hb)
 have HR_d2_22 := jA.mk hz
 replace HD := jA.mk (jI HD.out hb)
 refine ⟨_, rfl, ?_⟩
 refine hK.out _ _ ⟨(jB HK_a.out 0).trans rfl, (jB HK_a.out 1).trans rfl, (jB HK_a.out 2).trans rfl, (jB HK_b.out 0).trans rfl, (jB HK_b.out 1).trans rfl, (jB HK_b.out 2).trans rfl, (jB HK_c.out 0).trans rfl, (jB HK_c.out 1).trans rfl, (jB HK_c.out 2).trans rfl⟩ (fun hHeld => ?_)
 clear hK K hb hz
 refine nm_ ?_
 refine one_ (i := 85) (N := some 126) (ba_ 99 77371252455336267181195263) rfl rfl (vv HT_.out kr_) (by decide) (fun K hK => ?_)
 refine qX (t := 108) #[] Try.func26 kr_ rfl #[vd1_19, vd2_22] (by rfl) rfl rfl (by rfl) (by simp only [List.map_toArray, List.map_cons, List.map_nil]; rfl) ?_
 refine (jBJ HR_d1_19.out HR_d2_22.out HF_same_d1_d2.out).mono ?_
 rintro e u33 ⟨rfl, hb⟩
 replace HR_a := jA.mk (HR_a.out.below hb)
 replace HR_b := jA.mk (HR_b.out.below hb)
 replace HR_c := jA.mk (HR_c.out.below hb)
 replace HK_a := jA.mk (jJ HK_a.out hb)
 replace HK_b := jA.mk (jJ HK_b.out hb)
 replace HK_c := jA.mk (jJ HK_c.out hb)
 replace HD := jA.mk (jI HD.out hb)
 refine ⟨_, rfl, ?_⟩
 refine hK.out _ _ ⟨(jB HK_a.out 0).trans rfl, (jB HK_a.out 1).trans rfl, (jB HK_a.out 2).trans rfl, (jB HK_b.out 0).trans rfl, (jB HK_b.out 1).trans rfl, (jB HK_b.out 2).trans rfl, (jB HK_c.out 0).trans rfl, (jB HK_c.out 1).trans rfl, (jB HK_c.out 2).trans rfl⟩ (fun hHeld => ?_)
 clear hK K hb
 refine nm_ ?_
 refine pu_ 86 (some 127) (ba_ 99 154742504910672534362390527) (jd HT_.out kr_) ?_
 refine pu_ 87 (some 128) (ba_ 99 309485009821345068724781055) (jd HT_.out kr_) ?_
 refine pu_ 88 (some 129) (ba_ 99 618970019642690137449562111) (jd HT_.out kr_) ?_
 refine pu_ 89 (some 130) (ba_ 99 1237940039285380274899124223) (jd HT_.out kr_) ?_
 refine pu_ 90 (some 131) (ba_ 99 2475880078570760549798248447) (jd HT_.out kr_) ?_
 refine tk9_ 91 (some 132) (ba_ 99 4951760157141521099596496895) (jv HT_.out HW_.out kr_) hHeld ?_
 refine tk9_ 92 (some 133) (ba_ 99 9903520314283042199192993791) (jv HT_.out HW_.out kr_) hHeld ?_
 refine one_ (i := 93) (N := some 134) (ba_ 99 19807040628566084398385987583) rfl rfl (vv HT_.out kr_) (by decide) (fun K hK => ?_)
 refine jAQ Try.func52 kr_ rfl #[.agg #[.bool a.1, .slice aA a.2.1.length aC, .slice aB a.2.2.length aD]] (by rfl) rfl rfl (by (try simp only [List.map_toArray, List.map_cons, List.map_nil]); first | done | rfl) ?_
 refine (jJW HR_a.out HF_na.out).mono ?_
 rintro e u34 ⟨vna_24, rfl, hz, hb⟩
 replace HR_a := jA.mk (HR_a.out.below hb)
 replace HR_b := jA.mk (HR_b.out.below hb)
 replace HR_c := jA.mk (HR_c.out.below hb)
 replace HK_a := jA.mk (jJ HK_a.out hb)
 replace HK_b := jA.mk (jJ HK_b.out hb)
 replace HK_c := jA.mk (jJ HK_c.out hb)
 have HR_na_24 := jA.mk hz
 replace HD := jA.mk (jI HD.out hb)
 refine ⟨_, rfl, ?_⟩
 refine hK.out _ _ ⟨(jB HK_a.out 0).trans rfl, (jB HK_a.out 1).trans rfl, (jB HK_a.out 2).trans rfl, (jB HK_b.out 0).trans rfl, (jB HK_b.out 1).trans rfl, (jB HK_b.out 2).trans rfl, (jB HK_c.out 0).trans rfl, (jB HK_c.out 1).trans rfl, (jB HK_c.out 2).trans rfl⟩ (fun hHeld => ?_)
 clear hK K hb hz
 refine nm_ ?_
 refine one_ (i := 94) (N := some 135) (ba_ 99 39614081257132168796771975167) rfl rfl (vv HT_.out kr_) (by decide) (fun K hK => ?_)
 refine qX (t := 131) #[] Try.func48 kr_ rfl #[.agg #[.bool a.1, .slice aA a.2.1.length aC, .slice aB a.2.2.length aD], vna_24] (by rfl) rfl rfl (by rfl) (by simp only [List.map_toArray, List.map_cons, List.map_nil]; rfl) ?_
 refine (jBl HR_a.out HR_na_24.out HF_z.out).mono ?_
 rintro e u35 ⟨vz_25, rfl, hz, hb⟩
 replace HR_a := jA.mk (HR_a.out.below hb)
 replace HR_b := jA.mk (HR_b.out.below hb)
 replace HR_c := jA.mk (HR_c.out.below hb)
 replace HK_a := jA.mk (jJ HK_a.out hb)
 replace HK_b := jA.mk (jJ HK_b.out hb)
 replace HK_c := jA.mk (jJ HK_c.out hb)
 have HR_z_25 := jA.mk hz
 replace HD := jA.mk (jI HD.out hb)
 refine ⟨_, rfl, ?_⟩
 refine hK.out _ _ ⟨(jB HK_a.out 0).trans rfl, (jB HK_a.out 1).trans rfl, (jB HK_a.out 2).trans rfl, (jB HK_b.out 0).trans rfl, (jB HK_b.out 1).trans rfl, (jB HK_b.out 2).trans rfl, (jB HK_c.out 0).trans rfl, (jB HK_c.out 1).trans rfl, (jB HK_c.out 2).trans rfl⟩ (fun hHeld => ?_)
 clear hK K hb hz
 refine nm_ ?_
 refine one_ (i := 95) (N := some 136) (ba_ 99 79228162514264337593543950335) rfl rfl (vv HT_.out kr_) (by decide) (fun K hK => ?_)
 refine jAQ Try.func39 kr_ rfl #[.int .i64 0] (by rfl) rfl rfl (by (try simp only [List.map_toArray, List.map_cons, List.map_nil]); first | done | rfl) ?_
 refine (jJV HF_o0.out _).mono ?_
 rintro e u36 ⟨vo0_26, rfl, hz, hb⟩
 replace HR_a := jA.mk (HR_a.out.below hb)
 replace HR_b := jA.mk (HR_b.out.below hb)
 replace HR_c := jA.mk (HR_c.out.below hb)
 replace HK_a := jA.mk (jJ HK_a.out hb)
 replace HK_b := jA.mk (jJ HK_b.out hb)
 replace HK_c := jA.mk (jJ HK_c.out hb)
 replace HR_z_25 := jA.mk (HR_z_25.out.below hb)
 have HR_o0_26 := jA.mk hz
 replace HD := jA.mk (jI HD.out hb)
 refine ⟨_, rfl, ?_⟩
 refine hK.out _ _ ⟨(jB HK_a.out 0).trans rfl, (jB HK_a.out 1).trans rfl, (jB HK_a.out 2).trans rfl, (jB HK_b.out 0).trans rfl, (jB HK_b.out 1).trans rfl, (jB HK_b.out 2).trans rfl, (jB HK_c.out 0).trans rfl, (jB HK_c.out 1).trans rfl, (jB HK_c.out 2).trans rfl⟩ (fun hHeld => ?_)
 clear hK K hb hz
 refine nm_ ?_
 refine one_ (i := 96) (N := some 137) (ba_ 99 158456325028528675187087900671) rfl rfl (vv HT_.out kr_) (by decide) (fun K hK => ?_)
 refine qX (t := 130) #[] Try.func26 kr_ rfl #[vz_25, vo0_26] (by rfl) rfl rfl (by rfl) (by simp only [List.map_toArray, List.map_cons, List.map_nil]; rfl) ?_
 refine (jBJ HR_z_25.out HR_o0_26.out HF_same_z_o0.out).mono ?_
 rintro e u37 ⟨rfl, hb⟩
 replace HR_a := jA.mk (HR_a.out.below hb)
 replace HR_b := jA.mk (HR_b.out.below hb)
 replace HR_c := jA.mk (HR_c.out.below hb)
 replace HK_a := jA.mk (jJ HK_a.out hb)
 replace HK_b := jA.mk (jJ HK_b.out hb)
 replace HK_c := jA.mk (jJ HK_c.out hb)
 replace HD := jA.mk (jI HD.out hb)
 refine ⟨_, rfl, ?_⟩
 refine hK.out _ _ ⟨(jB HK_a.out 0).trans rfl, (jB HK_a.out 1).trans rfl, (jB HK_a.out 2).trans rfl, (jB HK_b.out 0).trans rfl, (jB HK_b.out 1).trans rfl, (jB HK_b.out 2).trans rfl, (jB HK_c.out 0).trans rfl, (jB HK_c.out 1).trans rfl, (jB HK_c.out 2).trans rfl⟩ (fun hHeld => ?_)
 clear hK K hb
 refine nm_ ?_
 refine pu_ 97 (some 138) (ba_ 99 316912650057057350374175801343) (jd HT_.out kr_) ?_
 refine pu_ 98 (some 139) (ba_ 99 633825300114114700748351602687) (jd HT_.out kr_) ?_
 refine jAv kr_ ?_
 clear hHeld HT_ HW_ HK_c HR_c
 have c0 : u37.cell? ⟨ga, 0, none⟩ = some (.bool a.1) := (jB HK_a.out 0).trans rfl
 have c1 : u37.cell? ⟨ga, 1, none⟩ = some (.slice aA a.2.1.length aC) := (jB HK_a.out 1).trans rfl
 have c2 : u37.cell? ⟨ga, 2, none⟩ = some (.slice aB a.2.2.length aD) := (jB HK_a.out 2).trans rfl
 go_wp2_with fail
 refine (jJj HR_a.out HF_inv.out).mono ?_
 rintro e x1 ⟨v, rfl, hz, hb⟩
 obtain ⟨iaA, iaC, iaB, iaD, rfl, hq⟩ := hz
 have HR_ia := jA.mk (show jAp x1 (.agg #[.bool ia.1, .slice iaA ia.2.1.length iaC, .slice iaB ia.2.2.length iaD]) ia from ⟨_, _, _, _, rfl, hq⟩)
 replace HD := jA.mk (jI HD.out hb)
 replace HK_a := jA.mk (jJ HK_a.out hb)
 replace HR_a := jA.mk (HR_a.out.below hb)
 replace HK_b := jA.mk (jJ HK_b.out hb)
 replace HR_b := jA.mk (HR_b.out.below hb)
 clear hb hq c0 c1 c2
 go_upto_region 10 with (fail)
 have HK_ia := jA.mk (jAN x1 (.cells #[.bool ia.1, .slice iaA ia.2.1.length iaC, .slice iaB ia.2.2.length iaD] 44))
 replace HD := jA.mk (jk HD.out (.cells #[.bool ia.1, .slice iaA ia.2.1.length iaC, .slice iaB ia.2.2.length iaD] 44))
 replace HR_ia := jA.mk (HR_ia.out.below (jk (Below.refl _ _) (.cells #[.bool ia.1, .slice iaA ia.2.1.length iaC, .slice iaB ia.2.2.length iaD] 44)))
 replace HK_a := jA.mk (vH HK_a.out (.cells #[.bool ia.1, .slice iaA ia.2.1.length iaC, .slice iaB ia.2.2.length iaD] 44))
 replace HR_a := jA.mk (HR_a.out.below (jk (Below.refl _ _) (.cells #[.bool ia.1, .slice iaA ia.2.1.length iaC, .slice iaB ia.2.2.length iaD] 44)))
 replace HK_b := jA.mk (vH HK_b.out (.cells #[.bool ia.1, .slice iaA ia.2.1.length iaC, .slice iaB ia.2.2.length iaD] 44))
 replace HR_b := jA.mk (HR_b.out.below (jk (Below.refl _ _) (.cells #[.bool ia.1, .slice iaA ia.2.1.length iaC, .slice iaB ia.2.2.length iaD] 44)))
 generalize x1.alloc (.cells #[.bool ia.1, .slice iaA ia.2.1.length iaC, .slice iaB ia.2.2.length iaD] 44) = x2 at HD HK_ia HR_ia HK_a HR_a HK_b HR_b ⊢
 generalize x1.heap.size = gi at HK_ia ⊢
 have c0 : x2.cell? ⟨ga, 0, none⟩ = some (.bool a.1) := (jB HK_a.out 0).trans rfl
 have c1 : x2.cell? ⟨ga, 1, none⟩ = some (.slice aA a.2.1.length aC) := (jB HK_a.out 1).trans rfl
 have c2 : x2.cell? ⟨ga, 2, none⟩ = some (.slice aB a.2.2.length aD) := (jB HK_a.out 2).trans rfl
 go_wp2_with fail
 refine (jIF HR_a.out HF_zero.out).mono ?_
 rintro e x3 ⟨rfl, hb⟩
 replace HD := jA.mk (jI HD.out hb)
 replace HK_a := jA.mk (jJ HK_a.out hb)
 replace HR_a := jA.mk (HR_a.out.below hb)
 replace HK_b := jA.mk (jJ HK_b.out hb)
 replace HR_b := jA.mk (HR_b.out.below hb)
 replace HK_ia := jA.mk (jJ HK_ia.out hb)
 replace HR_ia := jA.mk (HR_ia.out.below hb)
 clear hb c0 c1 c2
 cases zb with
 | true =>
  obtain rfl := HF_zt.out rfl
  clear HF_zt HF_zf HK_a HK_b HK_ia HR_a HR_b HR_ia
  go_wp2
  go_ret
  exact ⟨rfl, HD.out⟩
 | false =>
  obtain ⟨rfl, h1, h2, h3, h4, h5⟩ := HF_zf.out rfl
  have HF_ui := jA.mk h1
  have HF_o1 := jA.mk h2
  have HF_same_ui_o1 := jA.mk h3
  have HF_wi := jA.mk h4
  have HF_same_wi_b := jA.mk h5
  clear h1 h2 h3 h4 h5 HF_zt HF_zf
  go_upto_region 12 with (fail)
  replace HK_a := jA.mk (vF HK_a.out)
  replace HK_b := jA.mk (vF HK_b.out)
  replace HK_ia := jA.mk (vF HK_ia.out)
  replace HR_a := jA.mk (HR_a.out.below (zI (Below.refl _ _)))
  replace HR_b := jA.mk (HR_b.out.below (zI (Below.refl _ _)))
  replace HR_ia := jA.mk (HR_ia.out.below (zI (Below.refl _ _)))
  replace HD := jA.mk (zI HD.out)
  refine jAU (n := 24) (S := fun w' => w'.cell? ⟨ga, 0, none⟩ = some (.bool a.1) ∧ w'.cell? ⟨ga, 1, none⟩ = some (.slice aA a.2.1.length aC) ∧ w'.cell? ⟨ga, 2, none⟩ = some (.slice aB a.2.2.length aD) ∧ w'.cell? ⟨gb, 0, none⟩ = some (.bool b.1) ∧ w'.cell? ⟨gb, 1, none⟩ = some (.slice bA b.2.1.length bC) ∧ w'.cell? ⟨gb, 2, none⟩ = some (.slice bB b.2.2.length bD) ∧ w'.cell? ⟨gi, 0, none⟩ = some (.bool ia.1) ∧ w'.cell? ⟨gi, 1, none⟩ = some (.slice iaA ia.2.1.length iaC) ∧ w'.cell? ⟨gi, 2, none⟩ = some (.slice iaB ia.2.2.length iaD)) (ds := []) #[false, false, false, false, false, false, false, false, false, false, false, false, false, false, false, false, false, false, false, false, false, false, false, false] kr_ rfl rfl ⟨(jB HK_a.out 0).trans rfl, (jB HK_a.out 1).trans rfl, (jB HK_a.out 2).trans rfl, (jB HK_b.out 0).trans rfl, (jB HK_b.out 1).trans rfl, (jB HK_b.out 2).trans rfl, (jB HK_ia.out 0).trans rfl, (jB HK_ia.out 1).trans rfl, (jB HK_ia.out 2).trans rfl⟩ (fun hHeld => ?_)
  refine qc syzygylaw05_RatioField.jIK syzygylaw05_RatioField.jGY (fun HT_ HW_ => ?_)
  generalize x3.drew = x10 at HK_a HR_a HK_b HR_b HK_ia HR_ia HD hHeld ⊢
  refine pu_ 0 (some 149) (ba_ 24 1) (jd HT_.out kr_) ?_
  refine pu_ 1 (some 150) (ba_ 24 3) (jd HT_.out kr_) ?_
  refine pu_ 2 (some 151) (ba_ 24 7) (jd HT_.out kr_) ?_
  refine pu_ 3 (some 152) (ba_ 24 15) (jd HT_.out kr_) ?_
  refine pu_ 4 (some 153) (ba_ 24 31) (jd HT_.out kr_) ?_
  refine tk9_ 5 (some 154) (ba_ 24 63) (jv HT_.out HW_.out kr_) hHeld ?_
  refine tk9_ 6 (some 155) (ba_ 24 127) (jv HT_.out HW_.out kr_) hHeld ?_
  refine one_ (i := 7) (N := some 156) (ba_ 24 255) rfl rfl (vv HT_.out kr_) (by decide) (fun K hK => ?_)
  refine qX (t := 153) #[] Try.func50 kr_ rfl #[.agg #[.bool a.1, .slice aA a.2.1.length aC, .slice aB a.2.2.length aD], .agg #[.bool ia.1, .slice iaA ia.2.1.length iaC, .slice iaB ia.2.2.length iaD]] (by rfl) rfl rfl (by rfl) (by simp only [List.map_toArray, List.map_cons, List.map_nil]; rfl) ?_
  refine (jBF HR_a.out HR_ia.out HF_ui.out).mono ?_
  rintro e x11 ⟨vui_1, rfl, hz, hb⟩
  replace HR_a := jA.mk (HR_a.out.below hb)
  replace HR_b := jA.mk (HR_b.out.below hb)
  replace HR_ia := jA.mk (HR_ia.out.below hb)
  replace HK_a := jA.mk (jJ HK_a.out hb)
  replace HK_b := jA.mk (jJ HK_b.out hb)
  replace HK_ia := jA.mk (jJ HK_ia.out hb)
  have HR_ui_1 := jA.mk hz
  replace HD := jA.mk (jI HD.out hb)
  refine ⟨_, rfl, ?_⟩
  refine hK.out _ _ ⟨(jB HK_a.out 0).trans rfl, (jB HK_a.out 1).trans rfl, (jB HK_a.out 2).trans rfl, (jB HK_b.out 0).trans rfl, (jB HK_b.out 1).trans rfl, (jB HK_b.out 2).trans rfl, (jB HK_ia.out 0).trans rfl, (jB HK_ia.out 1).trans rfl, (jB HK_ia.out 2).trans rfl⟩ (fun hHeld => ?_)
  clear hK K hb hz
  refine nm_ ?_
  refine one_ (i := 8) (N := some 157) (ba_ 24 511) rfl rfl (vv HT_.out kr_) (by decide) (fun K hK => ?_)
  refine jAQ Try.func39 kr_ rfl #[.int .i64 1] (by rfl) rfl rfl (by (try simp only [List.map_toArray, List.map_cons, List.map_nil]); first | done | rfl) ?_
  refine (jJV HF_o1.out _).mono ?_
  rintro e x12 ⟨vo1_2, rfl, hz, hb⟩
  replace HR_a := jA.mk (HR_a.out.below hb)
  replace HR_b := jA.mk (HR_b.out.below hb)
  replace HR_ia := jA.mk (HR_ia.out.below hb)
  replace HK_a := jA.mk (jJ HK_a.out hb)
  replace HK_b := jA.mk (jJ HK_b.out hb)
  replace HK_ia := jA.mk (jJ HK_ia.out hb)
  replace HR_ui_1 := jA.mk (HR_ui_1.out.below hb)
  have HR_o1_2 := jA.mk hz
  replace HD := jA.mk (jI HD.out hb)
  refine ⟨_, rfl, ?_⟩
  refine hK.out _ _ ⟨(jB HK_a.out 0).trans rfl, (jB HK_a.out 1).trans rfl, (jB HK_a.out 2).trans rfl, (jB HK_b.out 0).trans rfl, (jB HK_b.out 1).trans rfl, (jB HK_b.out 2).trans rfl, (jB HK_ia.out 0).trans rfl, (jB HK_ia.out 1).trans rfl, (jB HK_ia.out 2).trans rfl⟩ (fun hHeld => ?_)
  clear hK K hb hz
  refine nm_ ?_
  refine one_ (i := 9) (N := some 158) (ba_ 24 1023) rfl rfl (vv HT_.out kr_) (by decide) (fun K hK => ?_)
  refine qX (t := 152) #[] Try.func26 kr_ rfl #[vui_1, vo1_2] (by rfl) rfl rfl (by rfl) (by simp only [List.map_toArray, List.map_cons, List.map_nil]; rfl) ?_
  refine (jBJ HR_ui_1.out HR_o1_2.out HF_same_ui_o1.out).mono ?_
  rintro e x13 ⟨rfl, hb⟩
  replace HR_a := jA.mk (HR_a.out.below hb)
  replace HR_b := jA.mk (HR_b.out.below hb)
  replace HR_ia := jA.mk (HR_ia.out.below hb)
  replace HK_a := jA.mk (jJ HK_a.out hb)
  replace HK_b := jA.mk (jJ HK_b.out hb)
  replace HK_ia := jA.mk (jJ HK_ia.out hb)
  replace HD := jA.mk (jI HD.out hb)
  refine ⟨_, rfl, ?_⟩
  refine hK.out _ _ ⟨(jB HK_a.out 0).trans rfl, (jB HK_a.out 1).trans rfl, (jB HK_a.out 2).trans rfl, (jB HK_b.out 0).trans rfl, (jB HK_b.out 1).trans rfl, (jB HK_b.out 2).trans rfl, (jB HK_ia.out 0).trans rfl, (jB HK_ia.out 1).trans rfl, (jB HK_ia.out 2).trans rfl⟩ (fun hHeld => ?_)
  clear hK K hb
  refine nm_ ?_
  refine pu_ 10 (some 159) (ba_ 24 2047) (jd HT_.out kr_) ?_
  refine pu_ 11 (some 160) (ba_ 24 4095) (jd HT_.out kr_) ?_
  refine pu_ 12 (some 161) (ba_ 24 8191) (jd HT_.out kr_) ?_
  refine pu_ 13 (some 162) (ba_ 24 16383) (jd HT_.out kr_) ?_
  refine pu_ 14 (some 163) (ba_ 24 32767) (jd HT_.out kr_) ?_
  refine tk9_ 15 (some 164) (ba_ 24 65535) (jv HT_.out HW_.out kr_) hHeld ?_
  refine tk9_ 16 (some 165) (ba_ 24 131071) (jv HT_.out HW_.out kr_) hHeld ?_
  refine tk9_ 18 (some 167) (ba_ 24 393215) (jv HT_.out HW_.out kr_) hHeld ?_
  refine tk9_ 20 (some 169) (ba_ 24 1441791) (jv HT_.out HW_.out kr_) hHeld ?_
  refine one_ (i := 17) (N := some 166) (ba_ 24 1572863) rfl rfl (vv HT_.out kr_) (by decide) (fun K hK => ?_)
  refine qX (t := 163) #[] Try.func50 kr_ rfl #[.agg #[.bool b.1, .slice bA b.2.1.length bC, .slice bB b.2.2.length bD], .agg #[.bool a.1, .slice aA a.2.1.length aC, .slice aB a.2.2.length aD]] (by rfl) rfl rfl (by rfl) (by simp only [List.map_toArray, List.map_cons, List.map_nil]; rfl) ?_
  refine (jBF HR_b.out HR_a.out HF_pba.out).mono ?_
  rintro e x14 ⟨vpba_4, rfl, hz, hb⟩
  replace HR_a := jA.mk (HR_a.out.below hb)
  replace HR_b := jA.mk (HR_b.out.below hb)
  replace HR_ia := jA.mk (HR_ia.out.below hb)
  replace HK_a := jA.mk (jJ HK_a.out hb)
  replace HK_b := jA.mk (jJ HK_b.out hb)
  replace HK_ia := jA.mk (jJ HK_ia.out hb)
  have HR_pba_4 := jA.mk hz
  replace HD := jA.mk (jI HD.out hb)
  refine ⟨_, rfl, ?_⟩
  refine hK.out _ _ ⟨(jB HK_a.out 0).trans rfl, (jB HK_a.out 1).trans rfl, (jB HK_a.out 2).trans rfl, (jB HK_b.out 0).trans rfl, (jB HK_b.out 1).trans rfl, (jB HK_b.out 2).trans rfl, (jB HK_ia.out 0).trans rfl, (jB HK_ia.out 1).trans rfl, (jB HK_ia.out 2).trans rfl⟩ (fun hHeld => ?_)
  clear hK K hb hz
  refine nm_ ?_
  refine one_ (i := 19) (N := some 168) (ba_ 24 2097151) rfl rfl (vv HT_.out kr_) (by decide) (fun K hK => ?_)
  refine qX (t := 162) #[] Try.func50 kr_ rfl #[vpba_4, .agg #[.bool ia.1, .slice iaA ia.2.1.length iaC, .slice iaB ia.2.2.length iaD]] (by rfl) rfl rfl (by rfl) (by simp only [List.map_toArray, List.map_cons, List.map_nil]; rfl) ?_
  refine (jBF HR_pba_4.out HR_ia.out HF_wi.out).mono ?_
  rintro e x15 ⟨vwi_5, rfl, hz, hb⟩
  replace HR_a := jA.mk (HR_a.out.below hb)
  replace HR_b := jA.mk (HR_b.out.below hb)
  replace HR_ia := jA.mk (HR_ia.out.below hb)
  replace HK_a := jA.mk (jJ HK_a.out hb)
  replace HK_b := jA.mk (jJ HK_b.out hb)
  replace HK_ia := jA.mk (jJ HK_ia.out hb)
  have HR_wi_5 := jA.mk hz
  replace HD := jA.mk (jI HD.out hb)
  refine ⟨_, rfl, ?_⟩
  refine hK.out _ _ ⟨(jB HK_a.out 0).trans rfl, (jB HK_a.out 1).trans rfl, (jB HK_a.out 2).trans rfl, (jB HK_b.out 0).trans rfl, (jB HK_b.out 1).trans rfl, (jB HK_b.out 2).trans rfl, (jB HK_ia.out 0).trans rfl, (jB HK_ia.out 1).trans rfl, (jB HK_ia.out 2).trans rfl⟩ (fun hHeld => ?_)
  clear hK K hb hz
  refine nm_ ?_
  refine one_ (i := 21) (N := some 170) (ba_ 24 4194303) rfl rfl (vv HT_.out kr_) (by decide) (fun K hK => ?_)
  refine qX (t := 161) #[] Try.func26 kr_ rfl #[vwi_5, .agg #[.bool b.1, .slice bA b.2.1.length bC, .slice bB b.2.2.length bD]] (by rfl) rfl rfl (by rfl) (by simp only [List.map_toArray, List.map_cons, List.map_nil]; rfl) ?_
  refine (jBJ HR_wi_5.out HR_b.out HF_same_wi_b.out).mono ?_
  rintro e x16 ⟨rfl, hb⟩
  replace HR_a := jA.mk (HR_a.out.below hb)
  replace HR_b := jA.mk (HR_b.out.below hb)
  replace HR_ia := jA.mk (HR_ia.out.below hb)
  replace HK_a := jA.mk (jJ HK_a.out hb)
  replace HK_b := jA.mk (jJ HK_b.out hb)
  replace HK_ia := jA.mk (jJ HK_ia.out hb)
  replace HD := jA.mk (jI HD.out hb)
  refine ⟨_, rfl, ?_⟩
  refine hK.out _ _ ⟨(jB HK_a.out 0).trans rfl, (jB HK_a.out 1).trans rfl, (jB HK_a.out 2).trans rfl, (jB HK_b.out 0).trans rfl, (jB HK_b.out 1).trans rfl, (jB HK_b.out 2).trans rfl, (jB HK_ia.out 0).trans rfl, (jB HK_ia.out 1).trans rfl, (jB HK_ia.out 2).trans rfl⟩ (fun hHeld => ?_)
  clear hK K hb
  refine nm_ ?_
  refine pu_ 22 (some 171) (ba_ 24 8388607) (jd HT_.out kr_) ?_
  refine pu_ 23 (some 2) (ba_ 24 16777215) (jd HT_.out kr_) ?_
  refine jAv kr_ ?_
  go_wp2
  go_ret
  exact ⟨rfl, HD.out⟩
end Go.Proofs.Ytijgeonhbmgikaa.PORatioField
