-- printed (pr.py)
import Derived.Test.YtijgeonhbmgikaaPOOctetGetsx0
import Derived.Test.YtijgeonhbmgikaaPOOctetGetsx2
import Derived.Test.YtijgeonhbmgikaaPOOctetGetsx3
import Derived.Test.YtijgeonhbmgikaaPOOctetGetsx4
import Derived.Test.YtijgeonhbmgikaaPOOctetGetsx13
import Derived.Test.YtijgeonhbmgikaaPOOctetGetsx17
namespace Go.Proofs.Ytijgeonhbmgikaa.POOctetGets
open Go.RowKit Go.Proofs.YtijgeonhbmgikaaN Go.Proofs.YtijgeonhbmgikaaW.PrintWords Go.Proofs.YtijgeonhbmgikaaW.PrintLast Go.Proofs.YtijgeonhbmgikaaW.PrintMore
attribute [local go_sem] qC zy qR qP za zZ qA zx
set_option maxHeartbeats 8000000
set_option maxRecDepth 100000
set_option linter.unusedVariables false
set_option linter.unusedSimpArgs false

/-! ### syzygylaw06_OctetGets: function 9 -/
def syzygylaw06_OctetGets.j0 : Nat → ByteArray → Bool → Option (Bool)
 | 0, _, _ => none
 | k + 1, x0, x33 => if x33 = true then ((vG.f k).bind fun t513 => (some t513)) else ((zY.f x0).bind fun bt514 => ((jV.f k x0).bind fun bt517 => ((zC.f k x0).bind fun bt520 => ((jK.f k x0).bind fun bt525 => ((zA.f k x0).bind fun bt530 => ((vQ.f k x0).bind fun bt540 => ((vT.f x0).bind fun bt550 => ((vK.f k x0).bind fun bt553 => (if bt514.1 = bt517.1 then (if bt514.2.1.toList = bt517.2.1.toList then (if bt514.2.2 = bt517.2.2 then ((ji.f k bt520.1 bt525.1).bind fun t556 => (if t556 = true then (if bt520.2.1.toList = bt525.2.1.toList then (if bt520.2.2 = bt525.2.2 then ((vS.f k bt530.1 bt530.2.1 bt530.2.2.1 bt540.1 bt540.2.1 bt540.2.2.1).bind fun t557 => (if t557 = true then (if bt530.2.2.2.1.toList = bt540.2.2.2.1.toList then (if bt530.2.2.2.2 = bt540.2.2.2.2 then (if bt550.1.toList = bt553.1.toList then (if bt550.2.1.toList = bt553.2.1.toList then (some (bt550.2.2 == bt553.2.2)) else (some false)) else (some false)) else (some false)) else (some false)) else (some false))) else (some false)) else (some false)) else (some false))) else (some false)) else (some false)) else (some false))))))))))
def syzygylaw06_OctetGets.f (k : Nat) (a0 : ByteArray) : Option (Bool) := if (a0.size : Int) > 1000 then (syzygylaw06_OctetGets.j0 k a0 true) else ((vG.f k).bind fun t512 => (syzygylaw06_OctetGets.j0 k a0 (!t512)))
theorem syzygylaw06_OctetGets.vN : ∀ k, (∀ y0 y1, LeO (syzygylaw06_OctetGets.j0 k y0 y1) (syzygylaw06_OctetGets.j0 (k + 1) y0 y1))
 | 0 => fun _ _ r h => by simp [syzygylaw06_OctetGets.j0] at h
 | k + 1 => by
  have ih0 := syzygylaw06_OctetGets.vN k
  ·
   intro y0 y1
   unfold syzygylaw06_OctetGets.j0
   repeat' first
   | (with_reducible exact ih0 _ _)
   | (with_reducible exact zC.mono _ _)
   | (with_reducible exact zA.mono _ _)
   | (with_reducible exact vG.mono _)
   | (with_reducible exact ji.mono _ _ _)
   | (with_reducible exact vS.mono _ _ _ _ _ _ _)
   | (with_reducible exact jV.mono _ _)
   | (with_reducible exact jK.mono _ _)
   | (with_reducible exact vQ.mono _ _)
   | (with_reducible exact vK.mono _ _)
   | (with_reducible exact LeO.refl _)
   | (with_reducible exact LeO.none _)
   | (with_reducible refine LeO.ite ?_ ?_)
   | (with_reducible refine LeO.bind ?_ (fun _ => ?_))
theorem syzygylaw06_OctetGets.mono : ∀ a0 k, LeO (syzygylaw06_OctetGets.f k a0) (syzygylaw06_OctetGets.f (k + 1) a0) := by
 intro a0 k
 have ih0 := syzygylaw06_OctetGets.vN k
 unfold syzygylaw06_OctetGets.f
 repeat' first
   | (with_reducible exact ih0 _ _)
   | (with_reducible exact zC.mono _ _)
   | (with_reducible exact zA.mono _ _)
   | (with_reducible exact vG.mono _)
   | (with_reducible exact ji.mono _ _ _)
   | (with_reducible exact vS.mono _ _ _ _ _ _ _)
   | (with_reducible exact jV.mono _ _)
   | (with_reducible exact jK.mono _ _)
   | (with_reducible exact vQ.mono _ _)
   | (with_reducible exact vK.mono _ _)
   | (with_reducible exact LeO.refl _)
   | (with_reducible exact LeO.none _)
   | (with_reducible refine LeO.ite ?_ ?_)
   | (with_reducible refine LeO.bind ?_ (fun _ => ?_))
theorem syzygylaw06_OctetGets.calls (k : Nat) (a0 : ByteArray) (w : World) (h : syzygylaw06_OctetGets.f k a0 = some true) :
  Calls Try.prog 9 #[.string a0] w fun e w' => e = .returned (.bool true) ∧ Below w.heap.size w w' := by
 have hu44 := Try.underlying44
 have HB := jA.mk (Below.refl w.heap.size w)
 have H : (if (a0.size : Int) > 1000 then (syzygylaw06_OctetGets.j0 k a0 true) else ((vG.f k).bind fun t512 => (syzygylaw06_OctetGets.j0 k a0 (!t512)))) = some true := h
 clear h
 have HC2 := jA.mk H
 clear H
 go_enter Try.func9, Try.ntmps9
 go_upto_region 1 with (fail)
 go_cut [33] (fun v33 wc => ∃ (kq : Nat) (x33_1 : Bool), v33 = .bool x33_1 ∧ jA (syzygylaw06_OctetGets.j0 kq a0 x33_1 = some true) ∧ jA (kq ≤ k) ∧ jA (Below w.heap.size w wc))
 case first =>
  have H := HC2.out
  clear HC2
  by_cases c3 : (a0.size : Int) > 1000
  ·
   rw [if_pos c3] at H
   have c3b0 := decide_eq_true c3
   have c3b1 : decide (1000 < a0.size) = true := decide_eq_true (by omega)
   clear c3
   (first | rw [c3b0] | (simp only [zF, zW]; rw [c3b0]) | skip)
   have H' := jA.mk H
   clear H
   go_wp2
   go_meet
   case rel => exact ⟨_, (true), sd_, H', ⟨by first | omega | exact Nat.le_refl _⟩, ⟨(bb_ HB)⟩⟩
  ·
   rw [if_neg c3] at H
   have c3b0 := decide_eq_false c3
   have c3b1 : decide (1000 < a0.size) = false := decide_eq_false (by omega)
   clear c3
   (first | rw [c3b0] | (simp only [zF, zW]; rw [c3b0]) | skip)
   replace H := ob_ H
   obtain ⟨t512, A40, H⟩ := H
   try dsimp only at H
   have A4 := jA.mk A40
   clear A40
   have H' := jA.mk H
   clear H
   go_wp2_with (first | ((with_reducible refine jr (N := 31) rfl ?_); refine vE (by first | rfl | kernel_rfl) ?_; dsimp only; (with_reducible refine jG (f := 16) rfl ?_); refine jo (some 31) rfl rfl Try.func16 kr_ rfl #[] rfl mt_ ?_; (with_reducible refine (vG.calls k  t512 _ A4.out).mono ?_); rintro e w5 ⟨rfl, hb⟩; refine ⟨_, rfl, ?_⟩; replace HB := bs_ HB hb))
   go_meet
   case rel => exact ⟨_, (!t512), sd_, H', ⟨by first | omega | exact Nat.le_refl _⟩, ⟨(bb_ HB)⟩⟩
 case rest =>
  clear HC2
  try clear c1
  try clear p2
  try clear c3
  try clear c3b0
  try clear c3b1
  obtain ⟨kq, x33_1, rfl, HA, HJ1, HB⟩ := hcut
  cases kq with
  | zero => exact absurd HA.out (by simp [syzygylaw06_OctetGets.j0])
  | succ kj1 =>
   have H := HA.out
   clear HA
   simp only [syzygylaw06_OctetGets.j0] at H
   by_cases c6 : x33_1 = true
   ·
    subst c6
    have H1 : ((vG.f kj1).bind fun t513 => (some t513)) = some true := by rw [if_pos rfl] at H; exact H
    clear H
    have H := H1
    clear H1
    replace H := ob_ H
    obtain ⟨t513, A70, H⟩ := H
    try dsimp only at H
    have A7 := jA.mk A70
    clear A70
    have HRT_ := jA.mk (Option.some.inj H)
    clear H
    go_wp2_with (first | ((with_reducible refine jG (f := 16) rfl ?_); refine jo (some 34) rfl rfl Try.func16 kr_ rfl #[] rfl mt_ ?_; (with_reducible refine (vG.calls kj1  t513 _ A7.out).mono ?_); rintro e w8 ⟨rfl, hb⟩; refine ⟨_, rfl, ?_⟩; replace HB := bs_ HB hb))
    go_ret
    exact ⟨by first | rfl | (rw [HRT_.out]; rfl) | (simp only [HRT_.out]; done) | exact of_decide_eq_true HRT_.out | (have h_ := HRT_.out; simp at h_ ⊢; exact h_) | (have h_ := HRT_.out; simp at h_ ⊢; omega) | (have h_ := HRT_.out; simp [h_]; done) | (simp [vM, vL] <;> rfl) | (simp [*, vM, vL] <;> rfl), (bb_ HB)⟩
   ·
    replace c6 := Bool.eq_false_iff.mpr c6
    subst c6
    have H1 : ((zY.f a0).bind fun bt514 => ((jV.f kj1 a0).bind fun bt517 => ((zC.f kj1 a0).bind fun bt520 => ((jK.f kj1 a0).bind fun bt525 => ((zA.f kj1 a0).bind fun bt530 => ((vQ.f kj1 a0).bind fun bt540 => ((vT.f a0).bind fun bt550 => ((vK.f kj1 a0).bind fun bt553 => (if bt514.1 = bt517.1 then (if bt514.2.1.toList = bt517.2.1.toList then (if bt514.2.2 = bt517.2.2 then ((ji.f kj1 bt520.1 bt525.1).bind fun t556 => (if t556 = true then (if bt520.2.1.toList = bt525.2.1.toList then (if bt520.2.2 = bt525.2.2 then ((vS.f kj1 bt530.1 bt530.2.1 bt530.2.2.1 bt540.1 bt540.2.1 bt540.2.2.1).bind fun t557 => (if t557 = true then (if bt530.2.2.2.1.toList = bt540.2.2.2.1.toList then (if bt530.2.2.2.2 = bt540.2.2.2.2 then (if bt550.1.toList = bt553.1.toList then (if bt550.2.1.toList = bt553.2.1.toList then (some (bt550.2.2 == bt553.2.2)) else (some false)) else (some false)) else (some false)) else (some false)) else (some false))) else (some false)) else (some false)) else (some false))) else (some false)) else (some false)) else (some false)))))))))) = some true := by rw [if_neg (show ¬ (false = true) by decide)] at H; exact H
    clear H
    have H := H1
    clear H1
    replace H := ob_ H
    obtain ⟨⟨t514, t515, t516⟩, A90, H⟩ := H
    try dsimp only at H
    have A9 := jA.mk A90
    clear A90
    replace H := ob_ H
    obtain ⟨⟨t517, t518, t519⟩, A100, H⟩ := H
    try dsimp only at H
    have A10 := jA.mk A100
    clear A100
    replace H := ob_ H
    obtain ⟨⟨t520, t521, t522⟩, A110, H⟩ := H
    try dsimp only at H
    have A11 := jA.mk A110
    clear A110
    replace H := ob_ H
    obtain ⟨⟨t525, t526, t527⟩, A120, H⟩ := H
    try dsimp only at H
    have A12 := jA.mk A120
    clear A120
    replace H := ob_ H
    obtain ⟨⟨t530, t531, t534, t537, t538⟩, A130, H⟩ := H
    try dsimp only at H
    have A13 := jA.mk A130
    clear A130
    replace H := ob_ H
    obtain ⟨⟨t540, t541, t544, t547, t548⟩, A140, H⟩ := H
    try dsimp only at H
    have A14 := jA.mk A140
    clear A140
    replace H := ob_ H
    obtain ⟨⟨t550, t551, t552⟩, A150, H⟩ := H
    try dsimp only at H
    have A15 := jA.mk A150
    clear A150
    replace H := ob_ H
    obtain ⟨⟨t553, t554, t555⟩, A160, H⟩ := H
    try dsimp only at H
    have A16 := jA.mk A160
    clear A160
    by_cases c17 : t514 = t517
    ·
     rw [if_pos c17] at H
     have c17b0 := beq_iff_eq.mpr c17
     have c17b1 := bne_eq_false_iff_eq.mpr c17
     clear c17
     by_cases c18 : t515.toList = t518.toList
     ·
      rw [if_pos c18] at H
      have c18b0 := beq_iff_eq.mpr c18
      have c18b1 := bne_eq_false_iff_eq.mpr c18
      clear c18
      by_cases c19 : t516 = t519
      ·
       rw [if_pos c19] at H
       have c19b0 := beq_iff_eq.mpr c19
       have c19b1 := bne_eq_false_iff_eq.mpr c19
       clear c19
       replace H := ob_ H
       obtain ⟨t556, A200, H⟩ := H
       try dsimp only at H
       have A20 := jA.mk A200
       clear A200
       by_cases c21 : t556 = true
       ·
        subst c21
        have H1 : (if t521.toList = t526.toList then (if t522 = t527 then ((vS.f kj1 t530 t531 t534 t540 t541 t544).bind fun t557 => (if t557 = true then (if t537.toList = t547.toList then (if t538 = t548 then (if t550.toList = t553.toList then (if t551.toList = t554.toList then (some (t552 == t555)) else (some false)) else (some false)) else (some false)) else (some false)) else (some false))) else (some false)) else (some false)) = some true := by rw [if_pos rfl] at H; exact H
        clear H
        have H := H1
        clear H1
        by_cases c22 : t521.toList = t526.toList
        ·
         rw [if_pos c22] at H
         have c22b0 := beq_iff_eq.mpr c22
         have c22b1 := bne_eq_false_iff_eq.mpr c22
         clear c22
         by_cases c23 : t522 = t527
         ·
          rw [if_pos c23] at H
          have c23b0 := beq_iff_eq.mpr c23
          have c23b1 := bne_eq_false_iff_eq.mpr c23
          clear c23
          replace H := ob_ H
          obtain ⟨t557, A240, H⟩ := H
          try dsimp only at H
          have A24 := jA.mk A240
          clear A240
          by_cases c25 : t557 = true
          ·
           subst c25
           have H1 : (if t537.toList = t547.toList then (if t538 = t548 then (if t550.toList = t553.toList then (if t551.toList = t554.toList then (some (t552 == t555)) else (some false)) else (some false)) else (some false)) else (some false)) = some true := by rw [if_pos rfl] at H; exact H
           clear H
           have H := H1
           clear H1
           by_cases c26 : t537.toList = t547.toList
           ·
            rw [if_pos c26] at H
            have c26b0 := beq_iff_eq.mpr c26
            have c26b1 := bne_eq_false_iff_eq.mpr c26
            clear c26
            by_cases c27 : t538 = t548
            ·
             rw [if_pos c27] at H
             have c27b0 := beq_iff_eq.mpr c27
             have c27b1 := bne_eq_false_iff_eq.mpr c27
             clear c27
             by_cases c28 : t550.toList = t553.toList
             ·
              rw [if_pos c28] at H
              have c28b0 := beq_iff_eq.mpr c28
              have c28b1 := bne_eq_false_iff_eq.mpr c28
              clear c28
              by_cases c29 : t551.toList = t554.toList
              ·
               rw [if_pos c29] at H
               have c29b0 := beq_iff_eq.mpr c29
               have c29b1 := bne_eq_false_iff_eq.mpr c29
               clear c29
               have HRT_ := jA.mk (Option.some.inj H)
               clear H
               go_wp2_with (first | ((with_reducible refine jG (f := 18) rfl ?_); refine jo (some 37) rfl rfl Try.func18 kr_ rfl #[.string a0] rfl mt_ ?_; (with_reducible refine (zY.calls a0 t514 t515 t516 _ A9.out).mono ?_); rintro e w30 ⟨rfl, hb⟩; refine ⟨_, rfl, ?_⟩; replace HB := bs_ HB hb) | ((with_reducible refine jG (f := 42) rfl ?_); refine jo (some 43) rfl rfl Try.func42 kr_ rfl #[.string a0] rfl mt_ ?_; (with_reducible refine (jV.calls kj1 a0 t517 t518 t519 _ A10.out).mono ?_); rintro e w' ⟨rfl, ⟨nd, rfl⟩⟩; refine ⟨_, rfl, ?_⟩; (try (rw [jAJ w30]; generalize hq_ : World.drewN w30 _ = w30; replace HB : jA (Below w.heap.size w w30) := ⟨by rw [← hq_]; exact (bb_ HB)⟩; clear hq_))) | ((with_reducible refine jG (f := 22) rfl ?_); refine jo (some 49) rfl rfl Try.func22 kr_ rfl #[.string a0] rfl mt_ ?_; (with_reducible refine (zC.calls kj1 a0 t520 t521 t522 _ A11.out).mono ?_); rintro e w31 ⟨v523, rfl, ho0, hb⟩; refine ⟨_, rfl, ?_⟩; have HO524 := jA.mk (Kd.jU ho0 (jB (bb_ HB))); replace HB := bs_ HB hb) | ((with_reducible refine jG (f := 43) rfl ?_); refine jo (some 55) rfl rfl Try.func43 kr_ rfl #[.string a0] rfl mt_ ?_; (with_reducible refine (jK.calls kj1 a0 t525 t526 t527 _ A12.out).mono ?_); rintro e w32 ⟨v528, rfl, ho0, hb⟩; refine ⟨_, rfl, ?_⟩; have HO529 := jA.mk (Kd.jU (Kd.jR ho0 (Kd.R_lt (rR_ HO524))) (jB (bb_ HB))); replace HO524 := re_ HO524 ho0 hb; replace HB := bs_ HB hb) | ((with_reducible refine jG (f := 44) rfl ?_); refine jo (some 61) rfl rfl Try.func44 kr_ rfl #[.string a0] rfl mt_ ?_; (with_reducible refine (zA.calls kj1 a0 t530 t531 t534 t537 t538 _ A13.out).mono ?_); rintro e w33 ⟨v532, v535, rfl, ho0, ho1, hb⟩; refine ⟨_, rfl, ?_⟩; have HO533 := jA.mk (Kd.jU (Kd.jR (Kd.jR ho0 (Kd.R_lt (rR_ HO524))) (Kd.R_lt (rR_ HO529))) (jB (bb_ HB))); have HO536 := jA.mk (Kd.jU (Kd.jR (Kd.jR ho1 (Kd.R_lt (rR_ HO524))) (Kd.R_lt (rR_ HO529))) (jB (bb_ HB))); replace HO524 := jA.mk (Kd.jk (Kd.jAd (Kd.jAd (Kd.jEE (rR_ HO524) hb) (Kd.zf ho0)) (Kd.zf ho1)) (fun _ h_ => h_.1)); replace HO529 := jA.mk (Kd.jk (Kd.jAd (Kd.jAd (Kd.jEE (rR_ HO529) hb) (Kd.zf ho0)) (Kd.zf ho1)) (fun _ h_ => h_.1)); replace HB := bs_ HB hb) | ((with_reducible refine jr (N := 15) rfl ?_); refine zR ?hg (N := 15) ?hd (cs := #[.bool false, .slice none 0 0, .slice none 0 0]) (t := 44) ?hr ?_; (case hd => rfl); (case hg => rfl); (case hr => exact gs_); intro gb539 hg w34 hbox hb; replace HO524 := ro_ HO524 hb; replace HO529 := ro_ HO529 hb; replace HO533 := ro_ HO533 hb; replace HO536 := ro_ HO536 hb; have BK539 := jA.mk (hbox); have GW539 := jA.mk ((by rw [hg]; exact (jB (bb_ HB)) : w.heap.size ≤ gb539)); have GE539 := jA.mk ((by rw [hg]; exact (jB (bb_ HB)) : w.heap.size ≤ gb539)); replace HB := bs_ HB hb; clear hb hbox hg; obtain ⟨hcz35_0, hcz35_1, hcz35_2, hfz35_0, hfz35_1, hfz35_2⟩ := bf3_ BK539; obtain ⟨Ao36, co36, eo36⟩ := Kd.jm HO533.out; subst eo36; obtain ⟨Ao37, co37, eo37⟩ := Kd.jm HO536.out; subst eo37) | ((with_reducible refine jG (f := 45) rfl ?_); refine jo (some 67) rfl rfl Try.func45 kr_ rfl #[.string a0] rfl mt_ ?_; (with_reducible refine (vQ.calls kj1 a0 t540 t541 t544 t547 t548 _ A14.out).mono ?_); rintro e w38 ⟨v542, v545, rfl, ho0, ho1, hb⟩; refine ⟨_, rfl, ?_⟩; have HO543 := jA.mk (Kd.jU (Kd.jR (Kd.jR (Kd.jR (Kd.jR ho0 (Kd.R_lt (rg3_ HO524 BK539))) (Kd.R_lt (rg3_ HO529 BK539))) (Kd.R_lt (rg3_ HO533 BK539))) (Kd.R_lt (rg3_ HO536 BK539))) (jB (bb1_ HB GE539))); have HO546 := jA.mk (Kd.jU (Kd.jR (Kd.jR (Kd.jR (Kd.jR ho1 (Kd.R_lt (rg3_ HO524 BK539))) (Kd.R_lt (rg3_ HO529 BK539))) (Kd.R_lt (rg3_ HO533 BK539))) (Kd.R_lt (rg3_ HO536 BK539))) (jB (bb1_ HB GE539))); replace HO524 := jA.mk (Kd.jk (Kd.jAd (Kd.jAd (Kd.jEE (rg3_ HO524 BK539) hb) (Kd.zf ho0)) (Kd.zf ho1)) (fun _ h_ => h_.1)); replace HO529 := jA.mk (Kd.jk (Kd.jAd (Kd.jAd (Kd.jEE (rg3_ HO529 BK539) hb) (Kd.zf ho0)) (Kd.zf ho1)) (fun _ h_ => h_.1)); replace HO533 := jA.mk (Kd.jk (Kd.jAd (Kd.jAd (Kd.jEE (rg3_ HO533 BK539) hb) (Kd.zf ho0)) (Kd.zf ho1)) (fun _ h_ => h_.1)); replace HO536 := jA.mk (Kd.jk (Kd.jAd (Kd.jAd (Kd.jEE (rg3_ HO536 BK539) hb) (Kd.zf ho0)) (Kd.zf ho1)) (fun _ h_ => h_.1)); replace BK539 := jA.mk (vw (g := gb539) (o := .cells #[.bool t530, .slice Ao36 t531.length co36, .slice Ao37 t534.length co37] 44 (0, 0)) (by refine pk_ ?_; refine jw (cs := #[.bool t530, .slice Ao36 t531.length co36, .slice none 0 0]) ?_ 2 _ rs_; refine pk_ ?_; refine jw (cs := #[.bool t530, .slice none 0 0, .slice none 0 0]) ?_ 1 _ rs_; refine pk_ ?_; refine jw (cs := #[.bool false, .slice none 0 0, .slice none 0 0]) ?_ 0 _ rs_; refine pk_ ?_; exact BK539.out) hb); replace HB := jA.mk (jv (bb1_ HB GE539) hb)) | ((with_reducible refine jr (N := 18) rfl ?_); refine zR ?hg (N := 18) ?hd (cs := #[.bool false, .slice none 0 0, .slice none 0 0]) (t := 44) ?hr ?_; (case hd => rfl); (case hg => rfl); (case hr => exact gs_); intro gb549 hg w39 hbox hb; replace HO524 := ro_ HO524 hb; replace HO529 := ro_ HO529 hb; replace HO533 := ro_ HO533 hb; replace HO536 := ro_ HO536 hb; replace HO543 := ro_ HO543 hb; replace HO546 := ro_ HO546 hb; have BK549 := jA.mk (hbox); have GW549 := jA.mk ((by rw [hg]; exact (jB (bb1_ HB GE539)) : w.heap.size ≤ gb549)); have GE549 := jA.mk ((by rw [hg]; exact (jB (bb1_ HB GE539)) : w.heap.size ≤ gb549)); replace HB := jA.mk (jv (bb1_ HB GE539) hb); have NB539_549 := jA.mk ((by rw [hg]; exact Nat.ne_of_lt (qK (g := gb539) (o := .cells #[.bool t530, .slice Ao36 t531.length co36, .slice Ao37 t534.length co37] 44 (0, 0)) (kb_ BK539)) : gb539 ≠ gb549)); have NB549_539 := jA.mk ((by rw [hg]; exact Nat.ne_of_gt (qK (g := gb539) (o := .cells #[.bool t530, .slice Ao36 t531.length co36, .slice Ao37 t534.length co37] 44 (0, 0)) (kb_ BK539)) : gb549 ≠ gb539)); replace BK539 := bk_ BK539 hb; clear hb hbox hg; have hnb40 := NB549_539.out; have hnc40 := NB539_549.out; obtain ⟨hcz41_0, hcz41_1, hcz41_2, hfz41_0, hfz41_1, hfz41_2⟩ := bf3_ BK549; obtain ⟨Ao42, co42, eo42⟩ := Kd.jm HO543.out; subst eo42; obtain ⟨Ao43, co43, eo43⟩ := Kd.jm HO546.out; subst eo43) | ((with_reducible refine jG (f := 19) rfl ?_); refine jo (some 73) rfl rfl Try.func19 kr_ rfl #[.string a0] rfl mt_ ?_; (with_reducible refine (vT.calls a0 t550 t551 t552 _ A15.out).mono ?_); rintro e w44 ⟨rfl, hb⟩; refine ⟨_, rfl, ?_⟩; replace HO524 := jA.mk (Kd.qd (rg3_ HO524 BK549) hb); replace HO529 := jA.mk (Kd.qd (rg3_ HO529 BK549) hb); replace HO533 := jA.mk (Kd.qd (rg3_ HO533 BK549) hb); replace HO536 := jA.mk (Kd.qd (rg3_ HO536 BK549) hb); replace HO543 := jA.mk (Kd.qd (rg3_ HO543 BK549) hb); replace HO546 := jA.mk (Kd.qd (rg3_ HO546 BK549) hb); replace BK539 := jA.mk (vw (g := gb539) (o := .cells #[.bool t530, .slice Ao36 t531.length co36, .slice Ao37 t534.length co37] 44 (0, 0)) (by refine pk_ ?_; refine jd ?_ NB539_549.out _; refine pk_ ?_; refine jd ?_ NB539_549.out _; refine pk_ ?_; refine jd ?_ NB539_549.out _; refine pk_ ?_; exact BK539.out) hb); replace BK549 := jA.mk (vw (g := gb549) (o := .cells #[.bool t540, .slice Ao42 t541.length co42, .slice Ao43 t544.length co43] 44 (0, 0)) (by refine pk_ ?_; refine jw (cs := #[.bool t540, .slice Ao42 t541.length co42, .slice none 0 0]) ?_ 2 _ rs_; refine pk_ ?_; refine jw (cs := #[.bool t540, .slice none 0 0, .slice none 0 0]) ?_ 1 _ rs_; refine pk_ ?_; refine jw (cs := #[.bool false, .slice none 0 0, .slice none 0 0]) ?_ 0 _ rs_; refine pk_ ?_; exact BK549.out) hb); replace HB := jA.mk (jv (bb2_ HB GE539 GE549) hb)) | ((with_reducible refine jG (f := 46) rfl ?_); refine jo (some 79) rfl rfl Try.func46 kr_ rfl #[.string a0] rfl mt_ ?_; (with_reducible refine (vK.calls kj1 a0 t553 t554 t555 _ A16.out).mono ?_); rintro e w' ⟨rfl, ⟨nd, rfl⟩⟩; refine ⟨_, rfl, ?_⟩; obtain ⟨Ao45, co45, eo45⟩ := Kd.jm HO524.out; subst eo45; obtain ⟨Ao46, co46, eo46⟩ := Kd.jm HO529.out; subst eo46) | ((with_reducible refine jr (N := 99) rfl ?_); refine vE (by first | rfl | kernel_rfl) ?_; dsimp only; (with_reducible refine jG (f := 47) rfl ?_); refine jo (some 99) rfl rfl Try.func47 kr_ rfl #[.slice Ao45 t520.length co45, .slice Ao46 t525.length co46] rfl mt_ ?_; (with_reducible refine (ji.calls kj1 _ _ t520 _ _ t525 true _ ?side1 ?side2 ?side3 ?side4 A20.out).mono ?_); (case side1 => exact cc_ (Kd.jF HO524.out).2.2); (case side2 => exact (Kd.jF HO524.out).2.1); (case side3 => exact cc_ (Kd.jF HO529.out).2.2); (case side4 => exact (Kd.jF HO529.out).2.1); rintro e w' ⟨rfl, ⟨nd, rfl⟩⟩; refine ⟨_, rfl, ?_⟩; obtain ⟨hcz47_0, hcz47_1, hcz47_2, hfz47_0, hfz47_1, hfz47_2⟩ := bf3_ BK539; obtain ⟨hcz48_0, hcz48_1, hcz48_2, hfz48_0, hfz48_1, hfz48_2⟩ := bf3_ BK549) | (go_at_call 26; (with_reducible refine (vS.calls kj1 t530 _ _ t531 _ _ t534 t540 _ _ t541 _ _ t544 true _ ?side1 ?side2 ?side3 ?side4 ?side5 ?side6 ?side7 ?side8 A24.out).mono ?_); (case side1 => exact cc_ (Kd.jF HO533.out).2.2); (case side2 => exact (Kd.jF HO533.out).2.1); (case side3 => exact cc_ (Kd.jF HO536.out).2.2); (case side4 => exact (Kd.jF HO536.out).2.1); (case side5 => exact cc_ (Kd.jF HO543.out).2.2); (case side6 => exact (Kd.jF HO543.out).2.1); (case side7 => exact cc_ (Kd.jF HO546.out).2.2); (case side8 => exact (Kd.jF HO546.out).2.1); rintro e w49 ⟨rfl, hb⟩; replace HO524 := ro_ HO524 hb; replace HO529 := ro_ HO529 hb; replace HO533 := ro_ HO533 hb; replace HO536 := ro_ HO536 hb; replace HO543 := ro_ HO543 hb; replace HO546 := ro_ HO546 hb; replace BK539 := bk_ BK539 hb; replace BK549 := bk_ BK549 hb; replace HB := jA.mk (jv (bb2_ HB GE539 GE549) hb)))
               go_ret
               exact ⟨by first | rfl | (rw [HRT_.out]; rfl) | (simp only [HRT_.out]; done) | exact of_decide_eq_true HRT_.out | (have h_ := HRT_.out; simp at h_ ⊢; exact h_) | (have h_ := HRT_.out; simp at h_ ⊢; omega) | (have h_ := HRT_.out; simp [h_]; done) | (simp [vM, vL] <;> rfl) | (simp [*, vM, vL] <;> rfl), (bb2_ HB GE539 GE549)⟩
              ·
               rw [if_neg c29] at H
               have c29b0 := beq_eq_false_iff_ne.mpr c29
               have c29b1 := bne_iff_ne.mpr c29
               exact absurd H (by simp)
             ·
              rw [if_neg c28] at H
              have c28b0 := beq_eq_false_iff_ne.mpr c28
              have c28b1 := bne_iff_ne.mpr c28
              exact absurd H (by simp)
            ·
             rw [if_neg c27] at H
             have c27b0 := beq_eq_false_iff_ne.mpr c27
             have c27b1 := bne_iff_ne.mpr c27
             exact absurd H (by simp)
           ·
            rw [if_neg c26] at H
            have c26b0 := beq_eq_false_iff_ne.mpr c26
            have c26b1 := bne_iff_ne.mpr c26
            exact absurd H (by simp)
          ·
           replace c25 := Bool.eq_false_iff.mpr c25
           subst c25
           have H1 : (some false) = some true := by rw [if_neg (show ¬ (false = true) by decide)] at H; exact H
           clear H
           have H := H1
           clear H1
           exact absurd H (by simp)
         ·
          rw [if_neg c23] at H
          have c23b0 := beq_eq_false_iff_ne.mpr c23
          have c23b1 := bne_iff_ne.mpr c23
          exact absurd H (by simp)
        ·
         rw [if_neg c22] at H
         have c22b0 := beq_eq_false_iff_ne.mpr c22
         have c22b1 := bne_iff_ne.mpr c22
         exact absurd H (by simp)
       ·
        replace c21 := Bool.eq_false_iff.mpr c21
        subst c21
        have H1 : (some false) = some true := by rw [if_neg (show ¬ (false = true) by decide)] at H; exact H
        clear H
        have H := H1
        clear H1
        exact absurd H (by simp)
      ·
       rw [if_neg c19] at H
       have c19b0 := beq_eq_false_iff_ne.mpr c19
       have c19b1 := bne_iff_ne.mpr c19
       exact absurd H (by simp)
     ·
      rw [if_neg c18] at H
      have c18b0 := beq_eq_false_iff_ne.mpr c18
      have c18b1 := bne_iff_ne.mpr c18
      exact absurd H (by simp)
    ·
     rw [if_neg c17] at H
     have c17b0 := beq_eq_false_iff_ne.mpr c17
     have c17b1 := bne_iff_ne.mpr c17
     exact absurd H (by simp)

/-- THE ONE PURE STATEMENT of syzygylaw06_OctetGets: yours. -/
def syzygylaw06_OctetGets.Pure : Prop := ∀ (a0 : ByteArray), a0.size ≤ 140737488351232 → ∃ k, syzygylaw06_OctetGets.f k a0 = some true
theorem syzygylaw06_OctetGets.walk (P : syzygylaw06_OctetGets.Pure) (a0 : ByteArray) (w : World) (w0 : a0.size ≤ 140737488351232) :
  Calls Try.prog 9 #[.string a0] w fun e w' => e = .returned (.bool true) ∧ Below w.heap.size w w' := by
 obtain ⟨k, h⟩ := P a0 w0
 refine (syzygylaw06_OctetGets.calls k a0 w h).mono ?_
 rintro e w' ⟨rfl, hd⟩
 exact ⟨rfl, hd⟩

end Go.Proofs.Ytijgeonhbmgikaa.POOctetGets
