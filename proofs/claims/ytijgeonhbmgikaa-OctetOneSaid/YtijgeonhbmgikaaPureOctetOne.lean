/- OctetOne: what is got of bytes has just those bytes. -/
import Derived.Test.YtijgeonhbmgikaaOOctetOneL
set_option linter.unusedVariables false
set_option linter.unusedSimpArgs false
namespace Go.Proofs.Ytijgeonhbmgikaa.Pure
open Go.RowKit Go.Proofs.Ytijgeonhbmgikaa.POOctetOne Go.Proofs.Ytijgeonhbmgikaa.EOOctetOne Go.Proofs.YtijgeonhbmgikaaN Go.Proofs.YtijgeonhbmgikaaW.PrintWords Go.Proofs.YtijgeonhbmgikaaW.PrintLast Go.Proofs.YtijgeonhbmgikaaW.PrintMore
theorem jBw (l : List UInt8) : (l != l) = false := by simp
theorem jHm {s : ByteArray} {c : Int} (h : jd.txt s = .inl c) : c ≠ 0 := by
  unfold jd.txt at h
  cases hn : Oct.num s with
  | inl c => rw [hn] at h; cases h; exact jDi hn
  | inr q =>
    obtain ⟨n, x⟩ := q
    rw [hn] at h
    dsimp only at h
    by_cases hs : x.size < n.toNat
    · rw [if_pos hs] at h; cases h; decide
    · rw [if_neg hs] at h; cases h
theorem jGe {s : ByteArray} {c : Int} (h : ratd s = .inl c) : c ≠ 0 := by
  unfold ratd at h
  by_cases h1 : s.size < 1
  · rw [if_pos h1] at h; cases h; decide
  · rw [if_neg h1] at h
    by_cases h2 : 1 < (bt s 0).toNat
    · rw [if_pos h2] at h; cases h; decide
    · rw [if_neg h2] at h
      cases hn : natd (s.extract 1 s.size) with
      | inl c => rw [hn] at h; cases h; exact jCb hn
      | inr p =>
        obtain ⟨a', t'⟩ := p
        rw [hn] at h
        dsimp only at h
        cases hm : natd t' with
        | inl c => rw [hm] at h; cases h; exact jCb hm
        | inr q =>
          obtain ⟨b', u⟩ := q
          rw [hm] at h
          dsimp only at h
          by_cases hy : mayd ((bt s 0) == 1) a' b' = true
          · rw [if_pos hy] at h; cases h
          · rw [if_neg hy] at h; cases h; decide
theorem jAG {s a t : ByteArray} (h : s = a ++ t) : a.size + t.size = s.size := by rw [h, ByteArray.size_append]
theorem jHU {s : ByteArray} (hs : s.size ≤ 1000) : Ev (fun k => syzygylaw06_OctetOne.j3 k s false) true := by
  refine Ev.step (fun k => by rw [syzygylaw06_OctetOne.j3]) (Ev.neg (by decide) ?_)
  have hg := jGp (s := s) (by omega)
  cases hn : ratd s with
  | inl c =>
    rw [hn] at hg
    refine Ev.bind (a := (false, [], [], (⟨#[]⟩ : ByteArray), c)) hg (Ev.bind (jFN false Ok.nil Ok.nil) ?_)
    exact Ev.neg (jGe hn) (Ev.now _)
  | inr p =>
    obtain ⟨n, a, b, t⟩ := p
    obtain ⟨oa, ob, _⟩ := jFK hn
    have e := jFL hn
    have hz := jAG e
    rw [hn] at hg
    have c1 : (putR n a b).1.size + t.size ≤ 9223372036854775807 := by omega
    refine Ev.bind (a := (n, a, b, t, (0 : Int))) hg (Ev.bind (jFN n oa ob) (Ev.pos rfl (Ev.pos c1 (Ev.eq (Ev.now _) ?_))))
    rw [← e]
    exact beq_self_eq_true _
theorem jHV {s : ByteArray} (hs : s.size ≤ 1000) : Ev (fun k => syzygylaw06_OctetOne.j2 k s false) true := by
  refine Ev.step (fun k => by rw [syzygylaw06_OctetOne.j2]) (Ev.neg (by decide) ?_)
  have hg := jGq (s := s) (by omega)
  cases hn : natd s with
  | inl c =>
    rw [hn] at hg
    refine Ev.bind (a := ([], (⟨#[]⟩ : ByteArray), c)) hg (Ev.bind (jBG []) ?_)
    exact Ev.neg (jCb hn) (jHU hs)
  | inr p =>
    obtain ⟨l, t⟩ := p
    have e := jBo hn
    have hz := jAG e
    rw [hn] at hg
    have c1 : (putN l).1.size + t.size ≤ 9223372036854775807 := by omega
    refine Ev.bind (a := (l, t, (0 : Int))) hg (Ev.bind (jBG l) (Ev.pos rfl (Ev.pos c1 ?_)))
    dsimp only
    rw [← e, jBw]
    exact jHU hs
theorem jHW {s : ByteArray} (hs : s.size ≤ 1000) : Ev (fun k => syzygylaw06_OctetOne.j1 k s false) true := by
  refine Ev.step (fun k => by rw [syzygylaw06_OctetOne.j1]) (Ev.neg (by decide) ?_)
  have hg := jGo (s := s) (by omega)
  cases hn : jd.txt s with
  | inl c =>
    rw [hn] at hg
    refine Ev.vF (a := ((⟨#[]⟩ : ByteArray), (⟨#[]⟩ : ByteArray), c)) hg ?_
    exact Ev.neg (jHm hn) (jHV hs)
  | inr p =>
    obtain ⟨x, t⟩ := p
    obtain ⟨e, hx⟩ := jGU hn
    have hx1 : x.size ≤ 1000 := by omega
    have hz := jAG e
    rw [hn] at hg
    have c1 : (putT x).size + t.size ≤ 9223372036854775807 := by omega
    refine Ev.vF (a := (x, t, (0 : Int))) hg (Ev.pos rfl (Ev.bind (jHv hx1) (Ev.pos c1 ?_)))
    dsimp only
    rw [← e, jBw]
    exact jHV hs
theorem OctetOne : syzygylaw06_OctetOne.Pure := by
  intro s _
  refine Ev.rounds ?_
  unfold syzygylaw06_OctetOne.f
  by_cases h0 : (s.size : Int) > 1000
  · exact Ev.pos h0 (Ev.step (fun k => by rw [syzygylaw06_OctetOne.j0]) (Ev.pos rfl (Ev.bind jDD (Ev.now _))))
  · have hs : s.size ≤ 1000 := by omega
    have hg := jHy (s := s) (by omega)
    refine Ev.neg h0 (Ev.bind jDD (Ev.step (fun k => by rw [syzygylaw06_OctetOne.j0]) (Ev.neg (by decide) ?_)))
    cases hn : Oct.num s with
    | inl c =>
      rw [hn] at hg
      refine Ev.vF (a := ((0 : Int), (⟨#[]⟩ : ByteArray), c)) hg ?_
      exact Ev.neg (jDi hn) (jHW hs)
    | inr p =>
      obtain ⟨n, t⟩ := p
      obtain ⟨n0, n1, e⟩ := jCa hn
      have hz := jAG e
      rw [hn] at hg
      have c1 : (strOfNums (putB n)).size + t.size ≤ 9223372036854775807 := by omega
      refine Ev.vF (a := (n, t, (0 : Int))) hg (Ev.pos rfl (Ev.bind (jFO n0 n1) (Ev.pos c1 ?_)))
      dsimp only
      rw [← e, jBw]
      exact jHW hs
end Go.Proofs.Ytijgeonhbmgikaa.Pure
