/- RatioSums: any many small numbers come to the same in whatever order. -/
import Derived.Test.YtijgeonhbmgikaaORatioSumsL
set_option linter.unusedVariables false
set_option linter.unusedSimpArgs false
namespace Go.Proofs.Ytijgeonhbmgikaa.Pure
open Go.RowKit Go.Proofs.Ytijgeonhbmgikaa.PORatioSums Go.Proofs.Ytijgeonhbmgikaa.EORatioSums Go.Proofs.YtijgeonhbmgikaaN Go.Proofs.YtijgeonhbmgikaaW.PrintWords Go.Proofs.YtijgeonhbmgikaaW.PrintLast Go.Proofs.YtijgeonhbmgikaaW.PrintMore
theorem jJm {x : Int} (h : -128 ≤ x ∧ x ≤ 127) : 0 ≤ Go.bits .and .i8 x 127 ∧ Go.bits .and .i8 x 127 ≤ 127 := by
  have all : ∀ i : Fin 256, 0 ≤ Go.bits .and .i8 ((i.val : Int) - 128) 127 ∧ Go.bits .and .i8 ((i.val : Int) - 128) 127 ≤ 127 := by decide +kernel
  have := all ⟨(x + 128).toNat, by omega⟩
  have e : (((x + 128).toNat : Nat) : Int) - 128 = x := by omega
  simp only [e] at this
  exact this
theorem jFX : ∀ (qs : List Rat), (∀ q ∈ qs, Sm q 8) → Sm (sumq qs) (1 + 9 * qs.length)
  | [], _ => ⟨by decide, by decide⟩
  | q :: r, h => by
    have h1 := (h q (List.mem_cons_self ..)).add (jFX r (fun x hx => h x (List.mem_cons_of_mem _ hx)))
    rw [sumq]
    exact h1.mono (by rw [List.length_cons]; omega)
theorem jHw : Sm ((0 : Int) : Rat) 8 := Sm.int (by decide) (by decide)
theorem jFW (qs : List Rat) (c : Nat) : sumq qs = sumq ((qs.drop c ++ [((0 : Int) : Rat)]) ++ qs.take c) := by
  rw [jBU, jBU, sumq, sumq]
  have e : sumq qs = sumq (qs.take c) + sumq (qs.drop c) := by rw [← jBU, List.take_append_drop]
  rw [e]
  show _ = sumq (qs.drop c) + (0 + 0) + sumq (qs.take c)
  rw [Rat.add_zero, Rat.add_zero, Rat.add_comm]
theorem jFV {qs : List Rat} (hl : qs.length ≤ 8) (hs : ∀ q ∈ qs, Sm q 8) {a : Int} (ha : 0 ≤ a ∧ a ≤ 255) : Ev (fun k => syzygylaw05_RatioSums.j2 k a (qs.map toS)) true := by
  have lm : (qs.map toS).length = qs.length := List.length_map ..
  have e1 : wrap64 (((qs.map toS).length : Int) + 1) = ((qs.length + 1 : Nat) : Int) := by rw [lm, w64 (by omega)]; omega
  obtain ⟨c, hc, hcl⟩ : ∃ c : Nat, Int.tmod (wrap64 a) ((qs.length + 1 : Nat) : Int) = (c : Int) ∧ c ≤ qs.length := by
    rw [w64 (by omega), Int.tmod_eq_emod_of_nonneg ha.1]
    have h1 := Int.emod_nonneg a (b := ((qs.length + 1 : Nat) : Int)) (by omega)
    have h2 := Int.emod_lt_of_pos a (b := ((qs.length + 1 : Nat) : Int)) (by omega)
    exact ⟨(a % ((qs.length + 1 : Nat) : Int)).toNat, by omega, by omega⟩
  refine Ev.step (fun k => by rw [syzygylaw05_RatioSums.j2, e1, hc, Int.toNat_natCast]) ?_
  refine Ev.neg (by omega) (Ev.zV (Ev.pos (by omega) (Ev.pos (by rw [lm]; omega) (Ev.zV (Ev.pos ?_ (Ev.zV (Ev.zK (jHi (n := 0) (by decide) (by decide)) (Ev.pos ?_ (Ev.zV (Ev.zV (Ev.pos ?_ ?_)))))))))))
  · rw [List.length_nil, List.length_drop, lm]; omega
  · rw [List.nil_append, List.length_drop, lm]; omega
  · rw [List.nil_append, List.length_append, List.length_drop, List.length_take, lm, List.length_singleton]; omega
  · have eT : ([] ++ (qs.map toS).drop c ++ [(⟨rn ((0 : Int) : Rat), rN ((0 : Int) : Rat), rD ((0 : Int) : Rat)⟩ : S44)]) ++ (qs.map toS).take c = ((qs.drop c ++ [((0 : Int) : Rat)]) ++ qs.take c).map toS := by
      rw [List.nil_append, List.map_append, List.map_append, List.map_drop, List.map_take]; rfl
    rw [eT]
    have h1 := jFY (by omega) hs
    have h2 := jFY (qs := (qs.drop c ++ [((0 : Int) : Rat)]) ++ qs.take c) (by rw [List.length_append, List.length_append, List.length_drop, List.length_take, List.length_singleton]; omega) (by
      intro q hq
      rcases List.mem_append.1 hq with hq | hq
      · rcases List.mem_append.1 hq with hq | hq
        · exact hs q (List.mem_of_mem_drop hq)
        · rw [List.mem_singleton.1 hq]; exact jHw
      · exact hs q (List.mem_of_mem_take hq))
    rw [← jFW] at h2
    have sm := jFX qs hs
    have hr := jFe (q := sumq qs) sm (by omega)
    rw [decide_eq_true rfl] at hr
    exact Ev.bind h1 (Ev.bind h2 (Ev.pos rfl (Ev.pos rfl (Ev.bind hr (Ev.now _)))))
theorem jIB {l0 l1 : List Int} (h0 : ∀ x ∈ l0, -128 ≤ x ∧ x ≤ 127) (h1 : ∀ x ∈ l1, 0 ≤ x ∧ x ≤ 255) (hl0 : l0.length ≤ 8) {a : Int} (ha : 0 ≤ a ∧ a ≤ 255) : ∀ (d i : Nat) (qs : List Rat), l0.length - i = d → i ≤ l0.length → qs.length = i → (∀ q ∈ qs, Sm q 8) → Ev (fun k => syzygylaw05_RatioSums.l0 k l0 l1 a (qs.map toS) (i : Int)) true := by
  intro d
  induction d with
  | zero =>
    intro i qs hd hi hq hs
    refine Ev.step (fun k => by rw [syzygylaw05_RatioSums.l0]) (Ev.neg (by omega) ?_)
    exact jFV (by omega) hs ha
  | succ d ih =>
    intro i qs hd hi hq hs
    have e : wrap64 ((i : Int) + 1) = ((i + 1 : Nat) : Int) := by rw [w64 (by omega)]; omega
    by_cases hi1 : i < l1.length
    · have hi0 : i < l0.length := by omega
      have r0 : rd l0 (i : Int) = l0[i] := by
        unfold rd; rw [Int.toNat_natCast, List.getD_eq_getElem?_getD, List.getElem?_eq_getElem hi0]; rfl
      have r1 : rd l1 (i : Int) = l1[i] := by
        unfold rd; rw [Int.toNat_natCast, List.getD_eq_getElem?_getD, List.getElem?_eq_getElem hi1]; rfl
      have b0 := jJm (h0 _ (List.getElem_mem hi0))
      have b1 := h1 _ (List.getElem_mem hi1)
      generalize hx : Go.bits .and .i8 l0[i] 127 = x at b0
      have ex : x % 4294967296 = ((x.toNat : Nat) : Int) := by omega
      generalize l1[i] = y at r1 b1
      have ey : y % 4294967296 % 9 = (((y % 9).toNat : Nat) : Int) := by
        rw [Int.emod_eq_of_lt b1.1 (by omega)]
        have := Int.emod_nonneg y (b := 9) (by decide)
        omega
      have l7 : (qs.map toS).length < 2513169434916 := by rw [List.length_map]; omega
      have hm := jHJ (decide (l0[i] < 0)) (x := x.toNat) (y := (y % 9).toNat) (by omega) (by omega)
      have sm := jFO (m := 8) (decide (l0[i] < 0)) (x := x.toNat) (y := (y % 9).toNat) (by omega) (by omega)
      generalize mkRat (sgn (decide (l0[i] < 0)) x.toNat) ((y % 9).toNat + 1) = q at hm sm
      refine Ev.step (fun k => by rw [syzygylaw05_RatioSums.l0, r0, r1, e, hx, ex, ey]) (Ev.pos (by omega) (Ev.pos (by omega) (Ev.pos (by omega) (Ev.bind hm (Ev.pos l7 ?_)))))
      have := ih (i + 1) (qs ++ [q]) (by omega) (by omega) (by rw [List.length_append, List.length_singleton, hq]) (by
        intro p hp
        rcases List.mem_append.1 hp with hp | hp
        · exact hs p hp
        · rw [List.mem_singleton.1 hp]; exact sm)
      rw [List.map_append] at this
      exact this
    · refine Ev.step (fun k => by rw [syzygylaw05_RatioSums.l0]) (Ev.pos (by omega) (Ev.neg (by omega) ?_))
      exact jFV (by omega) hs ha
theorem RatioSums : syzygylaw05_RatioSums.Pure := by
  intro l0 l1 a _ _ h0 _ _ h1 h2
  refine Ev.rounds ?_
  have b0 : ∀ x ∈ l0, -128 ≤ x ∧ x ≤ 127 := by
    intro x hx
    have := h0 x hx
    simp [Lit.wf, IntKind.min, IntKind.max, IntKind.signed, IntKind.bits] at this
    omega
  have b1 : ∀ x ∈ l1, 0 ≤ x ∧ x ≤ 255 := by
    intro x hx
    have := h1 x hx
    simp [Lit.wf, IntKind.min, IntKind.max, IntKind.signed, IntKind.bits] at this
    omega
  have b2 : 0 ≤ a ∧ a ≤ 255 := by simp [Lit.wf, IntKind.min, IntKind.max, IntKind.signed, IntKind.bits] at h2; omega
  have hsh : ∀ b, b = true → Ev (fun k => syzygylaw05_RatioSums.j0 k l0 l1 a b) true := fun b hb => Ev.step (fun k => by rw [syzygylaw05_RatioSums.j0]) (Ev.pos hb (Ev.bind jDg (Ev.now _)))
  unfold syzygylaw05_RatioSums.f
  by_cases c0 : (l0.length : Int) > 8
  · exact Ev.pos c0 (hsh _ rfl)
  · refine Ev.neg c0 ?_
    by_cases c1 : (l1.length : Int) > 8
    · exact Ev.pos c1 (hsh _ rfl)
    · refine Ev.neg c1 (Ev.bind jDg (Ev.step (fun k => by rw [syzygylaw05_RatioSums.j0]) (Ev.neg (by decide) ?_)))
      exact jIB b0 b1 (by omega) b2 _ 0 [] rfl (Nat.zero_le _) rfl (fun q hq => absurd hq (List.not_mem_nil))
end Go.Proofs.Ytijgeonhbmgikaa.Pure
