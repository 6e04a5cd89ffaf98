/- OctetBack: what was put is got, and what is behind it is left. -/
import Derived.Test.YtijgeonhbmgikaaOOctetBackL
set_option linter.unusedVariables false
set_option linter.unusedSimpArgs false
namespace Go.Proofs.Ytijgeonhbmgikaa.Pure
open Go.RowKit Go.Proofs.Ytijgeonhbmgikaa.POOctetBack Go.Proofs.Ytijgeonhbmgikaa.EOOctetBack Go.Proofs.YtijgeonhbmgikaaN Go.Proofs.YtijgeonhbmgikaaW.PrintWords Go.Proofs.YtijgeonhbmgikaaW.PrintLast Go.Proofs.YtijgeonhbmgikaaW.PrintMore
theorem jIN {l : List Int} (h : ∀ x ∈ l, (Lit.int .u64 x).wf = true) : Ok l := fun x hx => jHd (h x hx)
theorem jJo (l : List Int) (n : Bool) (a b : List Int) (s : ByteArray) : vI.f l n a b s = some (decide (20 < l.length ∨ 20 < a.length ∨ 20 < b.length ∨ 1000 < s.size)) := by
  unfold vI.f
  by_cases h1 : 20 < l.length
  · rw [if_pos (by omega), decide_eq_true (.inl h1)]
  · rw [if_neg (by omega)]
    by_cases h2 : 20 < a.length
    · rw [if_pos (by omega), decide_eq_true (.inr (.inl h2))]
    · rw [if_neg (by omega)]
      by_cases h3 : 20 < b.length
      · rw [if_pos (by omega), decide_eq_true (.inr (.inr (.inl h3)))]
      · rw [if_neg (by omega)]
        congr 1
        rw [decide_eq_decide]
        omega
theorem jFW (neg : Bool) (a b : List Int) : (putR neg a b).1.size ≤ 300 := by
  unfold putR
  by_cases h : mayd neg a b = true
  · rw [if_pos h]
    have h1 := jAb a
    have h2 := jAb b
    show (strOfNums _ ++ _ ++ _).size ≤ 300
    rw [ByteArray.size_append, ByteArray.size_append, zN, List.length_singleton]
    omega
  · rw [if_neg h]; decide
theorem jGQ (R : ByteArray) (hR : R.size ≤ 300) (neg : Bool) {a b : List Int} (ha : Ok a) (hb : Ok b) : Ev (fun k => syzygylaw06_OctetBack.j2 k R neg a b) true := by
  have hz := jFW neg a b
  refine Ev.step (fun k => by rw [syzygylaw06_OctetBack.j2]) (Ev.bind (jIK neg ha hb) ?_)
  by_cases hm : mayd neg a b = true
  · obtain ⟨ea, eb⟩ := jBx hm
    have e := jGt hm
    have hcat : (putR neg a b).1 ++ R = strOfNums ([if neg = true then 1 else 0] ++ PN a ++ PN b ++ bytesOf R) := by
      have h := zQ ([if neg = true then 1 else 0] ++ PN a ++ PN b) (bytesOf R)
      rw [qE] at h
      rw [e]
      exact h
    have hsz : ((putR neg a b).1 ++ R).size ≤ 1000000 := by rw [ByteArray.size_append]; omega
    have hg := jHB hsz
    rw [hcat, jGq ha hb hm (jAi R), qE, ← hcat] at hg
    have e2 : (putR neg a b).2 = 0 := by rw [e]
    have q := jJN (n1 := neg) (n2 := neg) ea.1 eb.1 ⟨rfl, rfl, rfl⟩
    have c1 : (putR neg a b).1.size + R.size ≤ 9223372036854775807 := by omega
    exact Ev.pos e2 (Ev.pos c1 (Ev.bind (a := (neg, a, b, R, (0 : Int))) hg (Ev.pos rfl (Ev.pos rfl (Ev.bind q (Ev.now _))))))
  · have e : putR neg a b = ({ data := #[] }, 1) := by unfold putR; rw [if_neg hm]
    rw [e]
    exact Ev.neg (by decide) (Ev.pos (by show ({ data := #[] } : ByteArray).toList = []; rw [ByteArray.toList_eq]) (Ev.now _))
theorem jIj {l : List Int} (hl : Ok l) (R : ByteArray) (hR : R.size ≤ 300) (neg : Bool) {a b : List Int} (ha : Ok a) (hb : Ok b) : Ev (fun k => syzygylaw06_OctetBack.j1 k l R false neg a b) true := by
  have hz := jAb l
  refine Ev.step (fun k => by rw [syzygylaw06_OctetBack.j1]) (Ev.neg (by decide) (Ev.bind (jBt l) ?_))
  by_cases hm : Held l
  · have e := jCf hm
    have hcat : (putN l).1 ++ R = strOfNums (PN l ++ bytesOf R) := by rw [e, ← zQ, qE]
    have hsz : ((putN l).1 ++ R).size ≤ 1000000 := by rw [ByteArray.size_append]; omega
    have hg := jHC hsz
    rw [hcat, jCk hl hm (jAi R), qE, ← hcat] at hg
    have e2 : (putN l).2 = 0 := by rw [e]
    have q := jJW (a := l) (b := l) (by have := hm.1; omega) rfl
    have c1 : (putN l).1.size + R.size ≤ 9223372036854775807 := by omega
    exact Ev.pos e2 (Ev.pos c1 (Ev.bind (a := (l, R, (0 : Int))) hg (Ev.pos rfl (Ev.pos rfl (Ev.bind q (Ev.pos rfl (jGQ R hR neg ha hb)))))))
  · have e : putN l = ({ data := #[] }, 1) := by unfold putN; rw [if_neg hm]
    rw [e]
    exact Ev.neg (by decide) (jGQ R hR neg ha hb)
theorem OctetBack : syzygylaw06_OctetBack.Pure := by
  intro n l neg a b s R hn _ hl hr _ _
  refine Ev.rounds ?_
  obtain ⟨n0, n1⟩ := jHd hn
  have ol := jIN hl
  have oa := jIN hr.2.1.2
  have ob := jIN hr.2.2.2
  dsimp only at oa ob
  have hsh : ∀ c, c = true → Ev (fun k => syzygylaw06_OctetBack.j0 k n l s R c neg a b) true := fun c hc => Ev.step (fun k => by rw [syzygylaw06_OctetBack.j0]) (Ev.pos hc (Ev.bind jDK (Ev.now _)))
  unfold syzygylaw06_OctetBack.f
  refine Ev.vK (jJo l neg a b s) ?_
  by_cases hh : 20 < l.length ∨ 20 < a.length ∨ 20 < b.length ∨ 1000 < s.size
  · exact Ev.pos (decide_eq_true hh) (hsh _ rfl)
  · refine Ev.neg (fun q => hh (of_decide_eq_true q)) ?_
    by_cases hR : (R.size : Int) > 300
    · exact Ev.pos hR (hsh _ rfl)
    · have hR' : R.size ≤ 300 := by omega
      have hs : s.size ≤ 1000 := by omega
      have hw := jCw n1
      have hws := jCw (jAp hs)
      have hp : (strOfNums (putB n)).size = wd n + 1 := by rw [zN, qy]
      have hpt : (putT s).size = wd (s.size : Int) + 1 + s.size := by unfold putT; rw [ByteArray.size_append, zN, qy]
      have c1 : (strOfNums (putB n)).size + R.size ≤ 9223372036854775807 := by omega
      have c2 : (putT s).size + R.size ≤ 9223372036854775807 := by omega
      have hcat : strOfNums (putB n) ++ R = strOfNums (putB n ++ bytesOf R) := by rw [← zQ, qE]
      have g1 := jIO (s := strOfNums (putB n) ++ R) (by rw [ByteArray.size_append]; omega)
      rw [hcat, jDp n0 n1 (jAi R), qE, ← hcat] at g1
      have g2 := jHA (s := putT s ++ R) (by rw [ByteArray.size_append]; omega)
      rw [jHy hs R] at g2
      refine Ev.neg hR (Ev.bind jDK (Ev.step (fun k => by rw [syzygylaw06_OctetBack.j0]) ?_))
      refine Ev.neg (by decide) (Ev.bind (jFV n0 n1) (Ev.pos c1 (Ev.vK (a := (n, R, (0 : Int))) g1 (Ev.bind (jIJ hs) (Ev.pos c2 (Ev.vK (a := (s, R, (0 : Int))) g2 ?_))))))
      exact Ev.pos rfl (Ev.pos rfl (Ev.pos rfl (Ev.pos rfl (Ev.pos rfl (jIj ol R hR' neg oa ob)))))
end Go.Proofs.Ytijgeonhbmgikaa.Pure
