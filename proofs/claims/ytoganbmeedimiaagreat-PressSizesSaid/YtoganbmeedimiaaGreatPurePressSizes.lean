/- PressSizes: a polynomial's bytes are as many as its terms' come to. -/
import Derived.Test.YtoganbmeedimiaaGreatOPressSizesL
set_option linter.unusedVariables false
set_option linter.unusedSimpArgs false
namespace Go.Proofs.YtoganbmeedimiaaGreat.Pure
open Go.RowKit Go.Proofs.YtoganbmeedimiaaGreat.POPressSizes Go.Proofs.YtoganbmeedimiaaGreat.EOPressSizes Go.Proofs.YtoganbmeedimiaaGreatN Go.Proofs.YtoganbmeedimiaaGreatW.PrintWords Go.Proofs.YtoganbmeedimiaaGreatW.PrintLast Go.Proofs.YtoganbmeedimiaaGreatW.PrintMore
theorem jMj {l : List Int} (h : ∀ x ∈ l, (Lit.int .u64 x).wf = true) : Ok l := fun x hx => jMY (h x hx)
def bigT (x : S37) : Prop := 12 < x.f0.f1.length ∨ 12 < x.f0.f2.length
instance (x : S37) : Decidable (bigT x) := inferInstanceAs (Decidable (_ ∨ _))
theorem l7 (l : List S37) : jAG [l] 0 = l := rfl
theorem len1 (l : List S37) : (([l] : List (List S37)).length : Int) = 1 := rfl
theorem jIY {l : List S37} (hl : l.length ≤ 80) : ∀ (d i : Nat), i + d = l.length → Ev (fun k => jO.l1 k [l] 0 (i : Int)) (decide (∃ x ∈ l.drop i, bigT x))
  | 0, i, h => by
    rw [List.drop_of_length_le (by omega), decide_eq_false (by rintro ⟨x, hx, -⟩; cases hx)]
    refine Ev.step (fun k => by rw [jO.l1]) (Ev.pos (by (try rw [len1]); first | decide | (unfold wrap64; omega)) (Ev.pos (by (try rw [len1]); first | decide | (unfold wrap64; omega)) (Ev.neg (by rw [l7]; omega) ?_)))
    exact Ev.step (fun k => by rw [jO.l0]) (Ev.neg (by (try rw [len1]); first | decide | (unfold wrap64; omega)) (Ev.now _))
  | d + 1, i, h => by
    have hi : i < l.length := by omega
    have ih := jIY hl d (i + 1) (by omega)
    refine Ev.step (fun k => by rw [jO.l1]) (Ev.pos (by (try rw [len1]); first | decide | (unfold wrap64; omega)) (Ev.pos (by (try rw [len1]); first | decide | (unfold wrap64; omega)) (Ev.pos (by rw [l7]; omega) (Ev.pos (by omega) ?_))))
    rw [l7, jNW hi, w64p (by omega) (by omega)]
    generalize jC l (i : Int) = x
    by_cases h1 : 12 < x.f0.f1.length
    · rw [decide_eq_true (⟨x, List.mem_cons_self .., .inl h1⟩ : ∃ y ∈ x :: l.drop (i + 1), bigT y)]
      exact Ev.pos (by omega) (Ev.now _)
    · refine Ev.neg (by omega) ?_
      by_cases h2 : 12 < x.f0.f2.length
      · rw [decide_eq_true (⟨x, List.mem_cons_self .., .inr h2⟩ : ∃ y ∈ x :: l.drop (i + 1), bigT y)]
        exact Ev.pos (by omega) (Ev.now _)
      · refine Ev.neg (by omega) (Ev.eq ih ?_)
        rw [decide_eq_decide]
        constructor
        · rintro ⟨y, hy, hb⟩; exact ⟨y, List.mem_cons_of_mem _ hy, hb⟩
        · rintro ⟨y, hy, hb⟩
          rcases List.mem_cons.1 hy with rfl | hy
          · exact absurd hb (by unfold bigT; omega)
          · exact ⟨y, hy, hb⟩
theorem jKN (l : List S37) : Ev (fun k => jO.f k [l]) (decide (80 < l.length ∨ ∃ x ∈ l, bigT x)) := by
  unfold jO.f
  refine Ev.neg (by (try rw [len1]); first | decide | (unfold wrap64; omega)) (Ev.step (fun k => by rw [jO.l0]) (Ev.pos (by (try rw [len1]); first | decide | (unfold wrap64; omega)) (Ev.pos (by (try rw [len1]); first | decide | (unfold wrap64; omega)) ?_)))
  rw [l7]
  by_cases h : 80 < l.length
  · rw [decide_eq_true (Or.inl h)]
    exact Ev.pos (by omega) (Ev.now _)
  · refine Ev.neg (by omega) (Ev.eq (jIY (by omega) l.length 0 (by omega)) ?_)
    rw [decide_eq_decide, List.drop_zero]
    exact ⟨.inr, fun q => q.elim (fun q => absurd q h) id⟩
theorem jJl : ∀ n : Fin 61, 0 < n.val → wd (n.val : Int) = 1 := by decide
theorem jKl {n : Nat} (h0 : 0 < n) (h1 : n ≤ 60) : wd (n : Int) = 1 := jJl ⟨n, by omega⟩ h0
theorem jGf {l : List Int} (h : Held l) (h0 : l ≠ []) : (putN l).1.size = 2 + 8 * l.length := by
  unfold putN
  have hl : 0 < l.length := List.length_pos_iff.2 h0
  have h8 := h.1
  rw [if_pos h]
  show (OctPut.puts _ _).size = _
  rw [OctPut.jBl, zw, jBn, jKl hl (by omega), List.length_reverse]
theorem jJo {x : S37} (h : jAY x = true) (h0 : x.f0.f1 ≠ []) : ((jEC x).size : Int) = Siz.szT x := by
  unfold jAY at h
  rw [Bool.and_eq_true] at h
  have hm := h.1
  have hh := jIO hm
  have hd : x.f0.f2 ≠ [] := fun e => by
    unfold mayd at hm
    have := (of_decide_eq_true hm).2.2.1
    rw [e] at this
    exact this rfl
  unfold jEC putR Siz.szT
  rw [if_pos hm]
  show (((strOfNums _ ++ _) ++ _ ++ strOfNums _).size : Int) = _
  rw [ByteArray.size_append, ByteArray.size_append, ByteArray.size_append, zw, zw, jGf hh.1 h0, jGf hh.2 hd]
  show ((1 + (2 + 8 * x.f0.f1.length) + (2 + 8 * x.f0.f2.length) + 4 : Nat) : Int) = _
  omega
theorem jIp : ∀ (l : List S37) (acc : ByteArray), (∀ x ∈ l, jAY x = true ∧ x.f0.f1 ≠ []) → ((catB l acc).size : Int) = acc.size + Siz.szs l
  | [], acc, _ => by show (acc.size : Int) = acc.size + 0; omega
  | x :: t, acc, h => by
    have hx := h x (List.mem_cons_self ..)
    have ht := jJo hx.1 hx.2
    rw [catB, jIp t _ (fun y hy => h y (List.mem_cons_of_mem _ hy)), ByteArray.size_append]
    show _ = _ + (Siz.szT x + Siz.szs t)
    omega
theorem PressSizes : syzygylaw11_PressSizes.Pure := by
  intro l hl hw
  have hok : ∀ x ∈ l, OkT x := fun x hx => ⟨jMj (hw x hx).1.2.1.2, jMj (hw x hx).1.2.2.2⟩
  have hh := jKN l
  by_cases hb : 80 < l.length ∨ ∃ x ∈ l, bigT x
  · rw [decide_eq_true hb] at hh
    have : Ev (fun k => Siz.sizes k l) true := by
      unfold Siz.sizes
      exact Ev.bind hh (Ev.pos rfl (Ev.now _))
    obtain ⟨K1, h1⟩ := this
    obtain ⟨K2, h2⟩ := hh
    refine ⟨K1 + K2, h1 (K1 + K2) (Nat.le_add_right ..), fun e => ?_⟩
    have e2 : jO.f (K1 + K2) [l] = some true := h2 (K1 + K2) (Nat.le_add_left ..)
    rw [e2] at e
    cases e
  · rw [decide_eq_false hb] at hh
    have hs : Siz.small l := ⟨by omega, fun x hx => by
      have : ¬ bigT x := fun q => hb (.inr ⟨x, hx, q⟩)
      unfold bigT at this
      omega⟩
    have : Ev (fun k => Siz.sizes k l) true := by
      unfold Siz.sizes
      refine Ev.bind hh (Ev.neg (by decide) (Ev.bind (jOH (by have := hs.1; omega) hok) ?_))
      unfold jFp
      by_cases hm : (mayP 0 l || mayP 1 l || mayP 2 l) = true
      · rw [if_pos hm]
        refine Ev.neg (fun q => q rfl) (Ev.eq (Ev.now _) (decide_eq_true ?_))
        have hp : ∃ o, mayP o l = true := by
          rw [Bool.or_eq_true, Bool.or_eq_true] at hm
          rcases hm with (h | h) | h
          · exact ⟨_, h⟩
          · exact ⟨_, h⟩
          · exact ⟨_, h⟩
        obtain ⟨o, ho⟩ := hp
        obtain ⟨m1, m2⟩ := jEL ho
        show ((catB l (strOfNums (putB (l.length : Int)))).size : Int) = _
        rw [jIp l _ m1, zw, jBn]
        by_cases h0 : l.length = 0
        · rw [if_pos h0, h0]; rfl
        · rw [if_neg h0, jKl (by omega) m2]; rfl
      · rw [if_neg hm]
        exact Ev.pos (by decide) (Ev.eq (Ev.now _) (by rw [show (({ data := #[] } : ByteArray), (1 : Int)).1.toList = [] from jEm []]; rfl))
    obtain ⟨K, h⟩ := this
    exact ⟨K, h K (Nat.le_refl _), fun _ => hs⟩
end Go.Proofs.YtoganbmeedimiaaGreat.Pure
