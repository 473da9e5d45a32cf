/- What the code of the law FnBooked answers. -/
import Derived.Test.YtngnkfpciloamaaShortFnBooked
import Derived.Test.YtngnkfpciloamaaMFnBookedx0
namespace Go.Proofs.Ytngnkfpciloamaa.MFnBooked
open Go.RowKit Go.Proofs.YtngnkfpciloamaaW.PrintWords Go.Proofs.YtngnkfpciloamaaW.PrintLast Go.Proofs.YtngnkfpciloamaaW.PrintMore
attribute [local go_sem] max2_int min2_int max_two min_two max_three min_three max_four min_four
set_option linter.unusedVariables false
set_option linter.unusedSimpArgs false
def spec_l18Copy.f (lp : List (S50)) (lq : List Int) (lr : List Int) : Option ((List (S50)) × List Int × List Int) := (some (([] : List (S50)) : List (S50))).bind fun y381 => (if y381.length + lp.length < 5864062014805 then ((some (([] : List Int) : List Int)).bind fun y387 => (if y387.length + lq.length < 17592186044416 then ((some (([] : List Int) : List Int)).bind fun y393 => (if y393.length + lr.length < 17592186044416 then (some ((y381 ++ lp), (y387 ++ lq), (y393 ++ lr))) else (none))) else (none))) else (none))
def spec_l18Copy.T1 : Bool × List (List Nat × List Nat) := (true, [([], []), ([], []), ([1], [1]), ([0, 2], [0, 2]), ([], []), ([], []), ([5], [5]), ([4, 6, 3], [4, 6]), ([], []), ([], []), ([9], [9]), ([8, 10, 7], [8, 10]), ([3, 7, 11], [3, 7, 11]), ([12, 11, 0, 1, 2, 3, 4, 5, 6, 7, 8, 9, 10, 11, 12], [12])])
def spec_l18Copy.B1 : List Nat := [0, 0, 2, 7, 0, 0, 32, 127, 0, 0, 512, 2047, 4095, 8191]
theorem spec_l18Copy.tab1 : rtab .any (opsOf Try.f56 1) = spec_l18Copy.T1 := by kernel_rfl
theorem spec_l18Copy.bits1 : waitsOk spec_l18Copy.T1.2 spec_l18Copy.B1 = true := by kernel_rfl
set_option maxHeartbeats 8000000 in
set_option maxRecDepth 100000 in
theorem spec_l18Copy.calls (Ap : Option Addr) (cp : Nat) (lp : List (S50)) (Aq : Option Addr) (cq : Nat) (lq : List Int) (Ar : Option Addr) (cr : Nat) (lr : List Int) (r1 : List (S50)) (r2 : List Int) (r3 : List Int) (w : World) (hr0_0 : Kd.C k50 w Ap lp.length lp) (hc0_0 : lp.length ≤ cp) (hr0_1 : Kd.C (Kd.int .i64) w Aq lq.length lq) (hc0_1 : lq.length ≤ cq) (hr0_2 : Kd.C (Kd.int .i64) w Ar lr.length lr) (hc0_2 : lr.length ≤ cr) (h : spec_l18Copy.f lp lq lr = some (r1, r2, r3)) :
  Calls Try.prog 56 #[.agg #[.slice Ap lp.length cp, .slice Aq lq.length cq, .slice Ar lr.length cr]] w fun e w' => ∃ v0_ v1_ v2_ : Value, e = .returned (.agg #[v0_, v1_, v2_]) ∧ Kd.R k50 50 w' w.heap.size (fun _ => True) v0_ r1 ∧ Kd.R (Kd.int .i64) 3 w' w.heap.size (fun k_ => some k_ ≠ (v2_ : Value).ownBlock) v1_ r2 ∧ Kd.R (Kd.int .i64) 3 w' w.heap.size (fun k_ => some k_ ≠ (v1_ : Value).ownBlock) v2_ r3 ∧ Below w.heap.size w w' := by
 have hu29 := Try.underlying29
 have HR0_0 := mk0 hr0_0
 have HC0_0 := mk0 hc0_0
 clear hr0_0 hc0_0
 have HR0_1 := mk0 hr0_1
 have HC0_1 := mk0 hc0_1
 clear hr0_1 hc0_1
 have HR0_2 := mk0 hr0_2
 have HC0_2 := mk0 hc0_2
 clear hr0_2 hc0_2
 have HB := mk0 (Below.refl w.heap.size w)
 have H : ((some (([] : List (S50)) : List (S50))).bind fun y381 => (if y381.length + lp.length < 5864062014805 then ((some (([] : List Int) : List Int)).bind fun y387 => (if y387.length + lq.length < 17592186044416 then ((some (([] : List Int) : List Int)).bind fun y393 => (if y393.length + lr.length < 17592186044416 then (some ((y381 ++ lp), (y387 ++ lq), (y393 ++ lr))) else (none))) else (none))) else (none))) = some (r1, r2, r3) := h
 clear h
 obtain ⟨y381, hy381⟩ : ∃ y_ : List (S50), y_ = (([] : List (S50))) := ⟨_, rfl⟩
 replace H : (if y381.length + lp.length < 5864062014805 then ((some (([] : List Int) : List Int)).bind fun y387 => (if y387.length + lq.length < 17592186044416 then ((some (([] : List Int) : List Int)).bind fun y393 => (if y393.length + lr.length < 17592186044416 then (some ((y381 ++ lp), (y387 ++ lq), (y393 ++ lr))) else (none))) else (none))) else (none)) = some (r1, r2, r3) := by first | (rw [hy381]; with_reducible exact H) | (have H2_ := (Option.bind_some _ _).symm.trans H; rw [hy381]; with_reducible exact H2_) | (have H2_ := (Option.bind_some _ _).symm.trans H; with_reducible exact H2_) | with_reducible exact H | (rw [hy381]; exact H) | exact H
 have Ny381 := mk0 hy381
 clear hy381
 by_cases c2 : y381.length + lp.length < 5864062014805
 ·rw [if_pos c2] at H
  have LMc2 := mk0 c2
  clear c2
  obtain ⟨y384, hy384⟩ : ∃ y_ : List (S50), y_ = (y381 ++ lp) := ⟨_, rfl⟩
  replace H : ((some (([] : List Int) : List Int)).bind fun y387 => (if y387.length + lq.length < 17592186044416 then ((some (([] : List Int) : List Int)).bind fun y393 => (if y393.length + lr.length < 17592186044416 then (some (y384, (y387 ++ lq), (y393 ++ lr))) else (none))) else (none))) = some (r1, r2, r3) := by first | (rw [hy384]; with_reducible exact H) | (have H2_ := (Option.bind_some _ _).symm.trans H; rw [hy384]; with_reducible exact H2_) | (have H2_ := (Option.bind_some _ _).symm.trans H; with_reducible exact H2_) | with_reducible exact H | (rw [hy384]; exact H) | exact H
  have Ny384 := mk0 hy384
  clear hy384
  obtain ⟨y387, hy387⟩ : ∃ y_ : List Int, y_ = (([] : List Int)) := ⟨_, rfl⟩
  replace H : (if y387.length + lq.length < 17592186044416 then ((some (([] : List Int) : List Int)).bind fun y393 => (if y393.length + lr.length < 17592186044416 then (some (y384, (y387 ++ lq), (y393 ++ lr))) else (none))) else (none)) = some (r1, r2, r3) := by first | (rw [hy387]; with_reducible exact H) | (have H2_ := (Option.bind_some _ _).symm.trans H; rw [hy387]; with_reducible exact H2_) | (have H2_ := (Option.bind_some _ _).symm.trans H; with_reducible exact H2_) | with_reducible exact H | (rw [hy387]; exact H) | exact H
  have Ny387 := mk0 hy387
  clear hy387
  by_cases c3 : y387.length + lq.length < 17592186044416
  ·rw [if_pos c3] at H
   have LMc3 := mk0 c3
   clear c3
   obtain ⟨y390, hy390⟩ : ∃ y_ : List Int, y_ = (y387 ++ lq) := ⟨_, rfl⟩
   replace H : ((some (([] : List Int) : List Int)).bind fun y393 => (if y393.length + lr.length < 17592186044416 then (some (y384, y390, (y393 ++ lr))) else (none))) = some (r1, r2, r3) := by first | (rw [hy390]; with_reducible exact H) | (have H2_ := (Option.bind_some _ _).symm.trans H; rw [hy390]; with_reducible exact H2_) | (have H2_ := (Option.bind_some _ _).symm.trans H; with_reducible exact H2_) | with_reducible exact H | (rw [hy390]; exact H) | exact H
   have Ny390 := mk0 hy390
   clear hy390
   obtain ⟨y393, hy393⟩ : ∃ y_ : List Int, y_ = (([] : List Int)) := ⟨_, rfl⟩
   replace H : (if y393.length + lr.length < 17592186044416 then (some (y384, y390, (y393 ++ lr))) else (none)) = some (r1, r2, r3) := by first | (rw [hy393]; with_reducible exact H) | (have H2_ := (Option.bind_some _ _).symm.trans H; rw [hy393]; with_reducible exact H2_) | (have H2_ := (Option.bind_some _ _).symm.trans H; with_reducible exact H2_) | with_reducible exact H | (rw [hy393]; exact H) | exact H
   have Ny393 := mk0 hy393
   clear hy393
   by_cases c4 : y393.length + lr.length < 17592186044416
   ·rw [if_pos c4] at H
    have LMc4 := mk0 c4
    clear c4
    obtain ⟨y396, hy396⟩ : ∃ y_ : List Int, y_ = (y393 ++ lr) := ⟨_, rfl⟩
    replace H : (some (y384, y390, y396)) = some (r1, r2, r3) := by first | (rw [hy396]; with_reducible exact H) | (have H2_ := (Option.bind_some _ _).symm.trans H; rw [hy396]; with_reducible exact H2_) | (have H2_ := (Option.bind_some _ _).symm.trans H; with_reducible exact H2_) | with_reducible exact H | (rw [hy396]; exact H) | exact H
    have Ny396 := mk0 hy396
    clear hy396
    simp only [Option.some.injEq, Prod.mk.injEq] at H
    obtain ⟨rfl, rfl, rfl⟩ := H
    go_enter Try.func56, Try.ntmps56
    try go_wp2_with (first | ((with_reducible refine gate_dst (N := 1) rfl ?_); refine box_event ?hg (N := 1) ?hd (cs := #[.slice Ap lp.length cp, .slice Aq lq.length cq, .slice Ar lr.length cr]) (t := 29) ?hr ?_; (case hd | hg => rfl); (case hr => first | (go_simp; done) | (go_simp; rfl)); intro gb379 hg w5 hbox hb; have n0_ := mk0 (below_step (hA HB.out) hb); have n1_ := mk0 (hbox); have n2_ := mk0 ((by rw [hg]; exact (below_size (hA HB.out)) : w.heap.size ≤ gb379)); have n3_ := mk0 ((by rw [hg]; exact (below_size (hA HB.out)) : w.heap.size ≤ gb379)); clear HB; have HB := n0_; have BK379 := n1_; have GW379 := n2_; have GE379 := n3_; clear n0_ n1_ n2_ n3_; clear hb hbox hg) | ((with_reducible refine gate_dst (N := 2) rfl ?_); refine box_event ?hg (N := 2) ?hd (cs := #[.slice none 0 0, .slice none 0 0, .slice none 0 0]) (t := 29) ?hr ?_; (case hd | hg => rfl); (case hr => first | (go_simp; done) | (go_simp; rfl)); intro gb380 hg w6 hbox hb; have n0_ := mk0 (bB BK379.out hb); have n1_ := mk0 (below_step (hA HB.out) hb); have n2_ := mk0 (hbox); have n3_ := mk0 ((by rw [hg]; exact (below_size (hA HB.out)) : w.heap.size ≤ gb380)); have n4_ := mk0 ((by rw [hg]; exact (below_size (hA HB.out)) : w.heap.size ≤ gb380)); have n5_ := mk0 ((by rw [hg]; exact Nat.ne_of_lt (blk_lt (g := gb379) (o := .cells #[.slice Ap lp.length cp, .slice Aq lq.length cq, .slice Ar lr.length cr] 29 (0, 0)) (bA BK379.out)) : gb379 ≠ gb380)); have n6_ := mk0 ((by rw [hg]; exact Nat.ne_of_gt (blk_lt (g := gb379) (o := .cells #[.slice Ap lp.length cp, .slice Aq lq.length cq, .slice Ar lr.length cr] 29 (0, 0)) (bA BK379.out)) : gb380 ≠ gb379)); clear BK379; clear HB; have BK379 := n0_; have HB := n1_; have BK380 := n2_; have GW380 := n3_; have GE380 := n4_; have NB379_380 := n5_; have NB380_379 := n6_; clear n0_ n1_ n2_ n3_ n4_ n5_ n6_; clear hb hbox hg))
    have n0_ := mk0 (blk_drew BK379.out)
    have n1_ := mk0 (blk_drew BK380.out)
    have n2_ := mk0 (below_drew1 HB.out)
    clear BK379
    clear BK380
    clear HB
    have BK379 := n0_
    have BK380 := n1_
    have HB := n2_
    clear n0_ n1_ n2_
    refine start_ (n := 14) (S := fun w' => w'.cell? ⟨gb379, 0, none⟩ = some (.slice Ap lp.length cp) ∧ w'.cell? ⟨gb379, 1, none⟩ = some (.slice Aq lq.length cq) ∧ w'.cell? ⟨gb379, 2, none⟩ = some (.slice Ar lr.length cr)) (ds := []) #[O,O,O,O,O,O,O,O,O,O,O,O,O,O] (by kernel_rfl) rfl rfl ⟨(blk_cell BK379.out 0).trans rfl, (blk_cell BK379.out 1).trans rfl, (blk_cell BK379.out 2).trans rfl⟩ (fun hHeld => ?_); refine with_tabW spec_l18Copy.tab1 spec_l18Copy.bits1 (fun HT_ HW_ => ?_)
    generalize w6.drew = w7 at BK379 BK380 HB hHeld ⊢
    refine pure_ (i := 1) (N := some 4) (v := ?_) (a' := ?_) #[O,I,O,O,O,O,O,O,O,O,O,O,O,O] rfl rfl (any_of HT_.out (by kernel_rfl)) (fun _ _ _ h => h) (Or.inl ⟨by rfl, ?_⟩) ?_ ?_
    rotate_left
    ·intro w'
     go_simp
     with_reducible rfl
    rotate_left
    ·simp only [Act.put, s1, s2, s3, i64_w]
     rfl
    refine pure_ (i := 5) (N := some 8) (v := ?_) (a' := ?_) #[O,I,O,O,O,I,O,O,O,O,O,O,O,O] rfl rfl (any_of HT_.out (by kernel_rfl)) (fun _ _ _ h => h) (Or.inl ⟨by rfl, ?_⟩) ?_ ?_
    rotate_left
    ·intro w'
     go_simp
     with_reducible rfl
    rotate_left
    ·simp only [Act.put, s1, s2, s3, i64_w]
     rfl
    refine pure_ (i := 9) (N := some 12) (v := ?_) (a' := ?_) #[O,I,O,O,O,I,O,O,O,I,O,O,O,O] rfl rfl (any_of HT_.out (by kernel_rfl)) (fun _ _ _ h => h) (Or.inl ⟨by rfl, ?_⟩) ?_ ?_
    rotate_left
    ·intro w'
     go_simp
     with_reducible rfl
    rotate_left
    ·simp only [Act.put, s1, s2, s3, i64_w]
     rfl
    refine take_ (i := 2) (N := some 5) (v := ?_) (a' := ?_) #[O,I,I,O,O,I,O,O,O,I,O,O,O,O] rfl rfl (take_ofW HT_.out HW_.out (by kernel_rfl)) (fun _ _ _ h => h) (Or.inl ⟨by rfl, ?_⟩) hHeld ?_ ?_
    rotate_left
    ·rintro w' ⟨s0, s1, s2⟩
     go_simp
     with_reducible rfl
    rotate_left
    ·simp only [Act.put, s1, s2, s3, i64_w]
     rfl
    refine take_ (i := 6) (N := some 9) (v := ?_) (a' := ?_) #[O,I,I,O,O,I,I,O,O,I,O,O,O,O] rfl rfl (take_ofW HT_.out HW_.out (by kernel_rfl)) (fun _ _ _ h => h) (Or.inl ⟨by rfl, ?_⟩) hHeld ?_ ?_
    rotate_left
    ·rintro w' ⟨s0, s1, s2⟩
     go_simp
     with_reducible rfl
    rotate_left
    ·simp only [Act.put, s1, s2, s3, i64_w]
     rfl
    refine take_ (i := 10) (N := some 13) (v := ?_) (a' := ?_) #[O,I,I,O,O,I,I,O,O,I,I,O,O,O] rfl rfl (take_ofW HT_.out HW_.out (by kernel_rfl)) (fun _ _ _ h => h) (Or.inl ⟨by rfl, ?_⟩) hHeld ?_ ?_
    rotate_left
    ·rintro w' ⟨s0, s1, s2⟩
     go_simp
     with_reducible rfl
    rotate_left
    ·simp only [Act.put, s1, s2, s3, i64_w]
     rfl
    refine join_ (σ := Value × Value × Value × Value × Value) 3 #[I,I,I,I,I,I,I,I,I,I,I,O,O,O] (fun s_ => [(3, s_.1), (6, s_.2.1), (7, s_.2.2.1), (10, s_.2.2.2.1), (11, s_.2.2.2.2)]) (fun s_ w' => (w'.cell? ⟨gb379, 0, none⟩ = some (.slice Ap lp.length cp) ∧ w'.cell? ⟨gb379, 1, none⟩ = some (.slice Aq lq.length cq) ∧ w'.cell? ⟨gb379, 2, none⟩ = some (.slice Ar lr.length cr)) ∧ (Kd.R k50 50 w' w.heap.size (fun _ => True) s_.2.1 y384) ∧ (Kd.R (Kd.int .i64) 3 w' w.heap.size (fun k_ => some k_ ≠ (s_.2.2.2.2 : Value).ownBlock) s_.2.2.2.1 y390) ∧ (Kd.R (Kd.int .i64) 3 w' w.heap.size (fun k_ => some k_ ≠ (s_.2.2.2.1 : Value).ownBlock) s_.2.2.2.2 y393) ∧ (w'.heap[gb379]? = some (.cells #[.slice Ap lp.length cp, .slice Aq lq.length cq, .slice Ar lr.length cr] 29 (0, 0))) ∧ (w'.heap[gb380]? = some (.cells #[.slice none 0 0, .slice none 0 0, .slice none 0 0] 29 (0, 0))) ∧ (Below w.heap.size w w')) ?_ ?_
    rotate_left
    ·intro hJ0_3_4_7_8
     refine join_ (σ := Value × Value × Value × Value) 4 #[I,I,I,I,I,I,I,I,O,I,I,O,O,O] (fun s_ => [(3, s_.1), (6, s_.2.1), (7, s_.2.2.1), (10, s_.2.2.2)]) (fun s_ w' => (w'.cell? ⟨gb379, 0, none⟩ = some (.slice Ap lp.length cp) ∧ w'.cell? ⟨gb379, 1, none⟩ = some (.slice Aq lq.length cq) ∧ w'.cell? ⟨gb379, 2, none⟩ = some (.slice Ar lr.length cr)) ∧ (Kd.R k50 50 w' w.heap.size (fun _ => True) s_.2.1 y384) ∧ (Kd.R (Kd.int .i64) 3 w' w.heap.size (fun _ => True) s_.2.2.2 y390) ∧ (w'.heap[gb379]? = some (.cells #[.slice Ap lp.length cp, .slice Aq lq.length cq, .slice Ar lr.length cr] 29 (0, 0))) ∧ (w'.heap[gb380]? = some (.cells #[.slice none 0 0, .slice none 0 0, .slice none 0 0] 29 (0, 0))) ∧ (Below w.heap.size w w')) ?_ ?_
     rotate_left
     ·intro hJ0_3_4_7
      refine join_ (σ := Value × Value × Value × Value) 4 #[I,I,I,I,I,I,I,O,I,I,I,O,O,O] (fun s_ => [(3, s_.1), (6, s_.2.1), (7, s_.2.2.1), (11, s_.2.2.2)]) (fun s_ w' => (w'.cell? ⟨gb379, 0, none⟩ = some (.slice Ap lp.length cp) ∧ w'.cell? ⟨gb379, 1, none⟩ = some (.slice Aq lq.length cq) ∧ w'.cell? ⟨gb379, 2, none⟩ = some (.slice Ar lr.length cr)) ∧ (Kd.R k50 50 w' w.heap.size (fun _ => True) s_.2.1 y384) ∧ (Kd.R (Kd.int .i64) 3 w' w.heap.size (fun k_ => some k_ ≠ (s_.2.2.2 : Value).ownBlock) s_.2.2.1 y387) ∧ (Kd.R (Kd.int .i64) 3 w' w.heap.size (fun k_ => some k_ ≠ (s_.2.2.1 : Value).ownBlock) s_.2.2.2 y393) ∧ (w'.heap[gb379]? = some (.cells #[.slice Ap lp.length cp, .slice Aq lq.length cq, .slice Ar lr.length cr] 29 (0, 0))) ∧ (w'.heap[gb380]? = some (.cells #[.slice none 0 0, .slice none 0 0, .slice none 0 0] 29 (0, 0))) ∧ (Below w.heap.size w w')) ?_ ?_
      rotate_left
      ·intro hJ0_3_4_8
       refine join_ (σ := Value × Value × Value) 5 #[I,I,I,I,I,I,I,O,O,I,I,O,O,O] (fun s_ => [(3, s_.1), (6, s_.2.1), (7, s_.2.2)]) (fun s_ w' => (w'.cell? ⟨gb379, 0, none⟩ = some (.slice Ap lp.length cp) ∧ w'.cell? ⟨gb379, 1, none⟩ = some (.slice Aq lq.length cq) ∧ w'.cell? ⟨gb379, 2, none⟩ = some (.slice Ar lr.length cr)) ∧ (Kd.R k50 50 w' w.heap.size (fun _ => True) s_.2.1 y384) ∧ (Kd.R (Kd.int .i64) 3 w' w.heap.size (fun _ => True) s_.2.2 y387) ∧ (w'.heap[gb379]? = some (.cells #[.slice Ap lp.length cp, .slice Aq lq.length cq, .slice Ar lr.length cr] 29 (0, 0))) ∧ (w'.heap[gb380]? = some (.cells #[.slice none 0 0, .slice none 0 0, .slice none 0 0] 29 (0, 0))) ∧ (Below w.heap.size w w')) ?_ ?_
       rotate_left
       ·intro hJ0_3_4
        refine join_ (σ := Value × Value × Value) 5 #[I,I,I,I,O,I,I,O,I,I,I,O,O,O] (fun s_ => [(3, s_.1), (6, s_.2.1), (11, s_.2.2)]) (fun s_ w' => (w'.cell? ⟨gb379, 0, none⟩ = some (.slice Ap lp.length cp) ∧ w'.cell? ⟨gb379, 1, none⟩ = some (.slice Aq lq.length cq) ∧ w'.cell? ⟨gb379, 2, none⟩ = some (.slice Ar lr.length cr)) ∧ (Kd.R k50 50 w' w.heap.size (fun _ => True) s_.2.1 y384) ∧ (Kd.R (Kd.int .i64) 3 w' w.heap.size (fun _ => True) s_.2.2 y393) ∧ (w'.heap[gb379]? = some (.cells #[.slice Ap lp.length cp, .slice Aq lq.length cq, .slice Ar lr.length cr] 29 (0, 0))) ∧ (w'.heap[gb380]? = some (.cells #[.slice none 0 0, .slice none 0 0, .slice none 0 0] 29 (0, 0))) ∧ (Below w.heap.size w w')) ?_ ?_
        rotate_left
        ·intro hJ0_3_8
         refine join_ (σ := Value × Value × Value) 5 #[I,I,I,O,I,I,I,O,I,I,I,O,O,O] (fun s_ => [(3, s_.1), (7, s_.2.1), (11, s_.2.2)]) (fun s_ w' => (w'.cell? ⟨gb379, 0, none⟩ = some (.slice Ap lp.length cp) ∧ w'.cell? ⟨gb379, 1, none⟩ = some (.slice Aq lq.length cq) ∧ w'.cell? ⟨gb379, 2, none⟩ = some (.slice Ar lr.length cr)) ∧ (Kd.R k50 50 w' w.heap.size (fun _ => True) s_.1 y381) ∧ (Kd.R (Kd.int .i64) 3 w' w.heap.size (fun k_ => some k_ ≠ (s_.2.2 : Value).ownBlock) s_.2.1 y387) ∧ (Kd.R (Kd.int .i64) 3 w' w.heap.size (fun k_ => some k_ ≠ (s_.2.1 : Value).ownBlock) s_.2.2 y393) ∧ (w'.heap[gb379]? = some (.cells #[.slice Ap lp.length cp, .slice Aq lq.length cq, .slice Ar lr.length cr] 29 (0, 0))) ∧ (w'.heap[gb380]? = some (.cells #[.slice none 0 0, .slice none 0 0, .slice none 0 0] 29 (0, 0))) ∧ (Below w.heap.size w w')) ?_ ?_
         rotate_left
         ·intro hJ0_4_8
          refine join_ (σ := Value × Value) 6 #[I,I,I,I,O,I,I,O,O,I,I,O,O,O] (fun s_ => [(3, s_.1), (6, s_.2)]) (fun s_ w' => (w'.cell? ⟨gb379, 0, none⟩ = some (.slice Ap lp.length cp) ∧ w'.cell? ⟨gb379, 1, none⟩ = some (.slice Aq lq.length cq) ∧ w'.cell? ⟨gb379, 2, none⟩ = some (.slice Ar lr.length cr)) ∧ (Kd.R k50 50 w' w.heap.size (fun _ => True) s_.2 y384) ∧ (w'.heap[gb379]? = some (.cells #[.slice Ap lp.length cp, .slice Aq lq.length cq, .slice Ar lr.length cr] 29 (0, 0))) ∧ (w'.heap[gb380]? = some (.cells #[.slice none 0 0, .slice none 0 0, .slice none 0 0] 29 (0, 0))) ∧ (Below w.heap.size w w')) ?_ ?_
          rotate_left
          ·intro hJ0_3
           refine join_ (σ := Value × Value) 6 #[I,I,I,O,I,I,I,O,O,I,I,O,O,O] (fun s_ => [(3, s_.1), (7, s_.2)]) (fun s_ w' => (w'.cell? ⟨gb379, 0, none⟩ = some (.slice Ap lp.length cp) ∧ w'.cell? ⟨gb379, 1, none⟩ = some (.slice Aq lq.length cq) ∧ w'.cell? ⟨gb379, 2, none⟩ = some (.slice Ar lr.length cr)) ∧ (Kd.R k50 50 w' w.heap.size (fun _ => True) s_.1 y381) ∧ (Kd.R (Kd.int .i64) 3 w' w.heap.size (fun _ => True) s_.2 y387) ∧ (w'.heap[gb379]? = some (.cells #[.slice Ap lp.length cp, .slice Aq lq.length cq, .slice Ar lr.length cr] 29 (0, 0))) ∧ (w'.heap[gb380]? = some (.cells #[.slice none 0 0, .slice none 0 0, .slice none 0 0] 29 (0, 0))) ∧ (Below w.heap.size w w')) ?_ ?_
           rotate_left
           ·intro hJ0_4
            refine join_ (σ := Value × Value) 6 #[I,I,I,O,O,I,I,O,I,I,I,O,O,O] (fun s_ => [(3, s_.1), (11, s_.2)]) (fun s_ w' => (w'.cell? ⟨gb379, 0, none⟩ = some (.slice Ap lp.length cp) ∧ w'.cell? ⟨gb379, 1, none⟩ = some (.slice Aq lq.length cq) ∧ w'.cell? ⟨gb379, 2, none⟩ = some (.slice Ar lr.length cr)) ∧ (Kd.R k50 50 w' w.heap.size (fun _ => True) s_.1 y381) ∧ (Kd.R (Kd.int .i64) 3 w' w.heap.size (fun _ => True) s_.2 y393) ∧ (w'.heap[gb379]? = some (.cells #[.slice Ap lp.length cp, .slice Aq lq.length cq, .slice Ar lr.length cr] 29 (0, 0))) ∧ (w'.heap[gb380]? = some (.cells #[.slice none 0 0, .slice none 0 0, .slice none 0 0] 29 (0, 0))) ∧ (Below w.heap.size w w')) ?_ ?_
            rotate_left
            ·intro hJ0_8
             refine join_ (σ := Value × Value) 6 #[O,I,I,O,I,I,I,O,I,I,I,O,O,O] (fun s_ => [(7, s_.1), (11, s_.2)]) (fun s_ w' => (w'.cell? ⟨gb379, 0, none⟩ = some (.slice Ap lp.length cp) ∧ w'.cell? ⟨gb379, 1, none⟩ = some (.slice Aq lq.length cq) ∧ w'.cell? ⟨gb379, 2, none⟩ = some (.slice Ar lr.length cr)) ∧ (Kd.R (Kd.int .i64) 3 w' w.heap.size (fun k_ => some k_ ≠ (s_.2 : Value).ownBlock) s_.1 y387) ∧ (Kd.R (Kd.int .i64) 3 w' w.heap.size (fun k_ => some k_ ≠ (s_.1 : Value).ownBlock) s_.2 y393) ∧ (w'.heap[gb379]? = some (.cells #[.slice Ap lp.length cp, .slice Aq lq.length cq, .slice Ar lr.length cr] 29 (0, 0))) ∧ (w'.heap[gb380]? = some (.cells #[.slice none 0 0, .slice none 0 0, .slice none 0 0] 29 (0, 0))) ∧ (Below w.heap.size w w')) ?_ ?_
             rotate_left
             ·intro hJ4_8
              refine join_ (σ := Value) 7 #[I,I,I,O,O,I,I,O,O,I,I,O,O,O] (fun s_ => [(3, s_)]) (fun s_ w' => (w'.cell? ⟨gb379, 0, none⟩ = some (.slice Ap lp.length cp) ∧ w'.cell? ⟨gb379, 1, none⟩ = some (.slice Aq lq.length cq) ∧ w'.cell? ⟨gb379, 2, none⟩ = some (.slice Ar lr.length cr)) ∧ (Kd.R k50 50 w' w.heap.size (fun _ => True) s_ y381) ∧ (w'.heap[gb379]? = some (.cells #[.slice Ap lp.length cp, .slice Aq lq.length cq, .slice Ar lr.length cr] 29 (0, 0))) ∧ (w'.heap[gb380]? = some (.cells #[.slice none 0 0, .slice none 0 0, .slice none 0 0] 29 (0, 0))) ∧ (Below w.heap.size w w')) ?_ ?_
              rotate_left
              ·intro hJ0
               refine join_ (σ := Value) 7 #[O,I,I,O,I,I,I,O,O,I,I,O,O,O] (fun s_ => [(7, s_)]) (fun s_ w' => (w'.cell? ⟨gb379, 0, none⟩ = some (.slice Ap lp.length cp) ∧ w'.cell? ⟨gb379, 1, none⟩ = some (.slice Aq lq.length cq) ∧ w'.cell? ⟨gb379, 2, none⟩ = some (.slice Ar lr.length cr)) ∧ (Kd.R (Kd.int .i64) 3 w' w.heap.size (fun _ => True) s_ y387) ∧ (w'.heap[gb379]? = some (.cells #[.slice Ap lp.length cp, .slice Aq lq.length cq, .slice Ar lr.length cr] 29 (0, 0))) ∧ (w'.heap[gb380]? = some (.cells #[.slice none 0 0, .slice none 0 0, .slice none 0 0] 29 (0, 0))) ∧ (Below w.heap.size w w')) ?_ ?_
               rotate_left
               ·intro hJ4
                refine join_ (σ := Value) 7 #[O,I,I,O,O,I,I,O,I,I,I,O,O,O] (fun s_ => [(11, s_)]) (fun s_ w' => (w'.cell? ⟨gb379, 0, none⟩ = some (.slice Ap lp.length cp) ∧ w'.cell? ⟨gb379, 1, none⟩ = some (.slice Aq lq.length cq) ∧ w'.cell? ⟨gb379, 2, none⟩ = some (.slice Ar lr.length cr)) ∧ (Kd.R (Kd.int .i64) 3 w' w.heap.size (fun _ => True) s_ y393) ∧ (w'.heap[gb379]? = some (.cells #[.slice Ap lp.length cp, .slice Aq lq.length cq, .slice Ar lr.length cr] 29 (0, 0))) ∧ (w'.heap[gb380]? = some (.cells #[.slice none 0 0, .slice none 0 0, .slice none 0 0] 29 (0, 0))) ∧ (Below w.heap.size w w')) ?_ ?_
                rotate_left
                ·intro hJ8
                 refine three_ (i := 0) (j := 4) (k := 8) (Ni := some 3) (Nj := some 7) (Nk := some 11) #[I,I,I,O,O,I,I,O,O,I,I,O,O,O] #[O,I,I,O,I,I,I,O,O,I,I,O,O,O] #[O,I,I,O,O,I,I,O,I,I,I,O,O,O] rfl rfl rfl rfl rfl rfl (three_of HT_.out (by kernel_rfl)) (by decide) (by decide) (by decide) (fun K hK => ?_) (fun K hK => ?_) (fun K hK => ?_)
                 ·skip
                  refine Kd.R_lit_step k50 _ 50 ?hg (N := 3) ?hd (xs := ([] : List (S50))) (inner := []) (ok := fun _ => True) (okp := fun _ => True) ?hr ?hp (fun _ hk => hk) trivial (Below.refl _ _) (Nat.le_refl _) (by simp) ?_; (case hd | hg => rfl); (case hr => first | (go_simp; done) | (go_simp; rfl)); (case hp => exact (Reps.none _ _))
                  intro v382 w8 ho9 hb hg_ hnew_
                  clear hg_ hnew_
                  (first | rw [← Ny381.out] at ho9 | (simp only [Int.reduceToNat] at ho9; rw [← Ny381.out] at ho9))
                  have n0_ := mk0 (Kd.R_lower ho9 (below_size (hA HB.out)))
                  have n1_ := mk0 (bB BK379.out hb)
                  have n2_ := mk0 (bB BK380.out hb)
                  have n3_ := mk0 (below_step (hA HB.out) hb)
                  clear BK379
                  clear BK380
                  clear HB
                  have HO383 := n0_
                  have BK379 := n1_
                  have BK380 := n2_
                  have HB := n3_
                  clear n0_ n1_ n2_ n3_
                  clear hb ho9
                  refine hK.out _ _ ⟨(blk_cell BK379.out 0).trans rfl, (blk_cell BK379.out 1).trans rfl, (blk_cell BK379.out 2).trans rfl⟩ (fun hHeld => ?_)
                  clear hK K
                  refine norm_ (a' := ?_) ?_ ?_
                  rotate_left
                  ·show Act.put _ (some 3) _ = _
                   simp only [Act.put, s1, s2, s3, i64_w]
                   rfl
                  exact norm_ (by first | (simp only [putAll, Act.put, s1, s2, s3]; done) | (simp only [putAll, Act.put, s1, s2, s3]; rfl)) (hJ0 (v382) _ ⟨hHeld, (rA HO383.out), (bA BK379.out), (bA BK380.out), (hA HB.out)⟩)
                 ·skip
                  refine Kd.R_lit_step (Kd.int .i64) _ 3 ?hg (N := 7) ?hd (xs := ([] : List Int)) (inner := []) (ok := fun _ => True) (okp := fun _ => True) ?hr ?hp (fun _ hk => hk) trivial (Below.refl _ _) (Nat.le_refl _) (by simp) ?_; (case hd | hg => rfl); (case hr => first | (go_simp; done) | (go_simp; rfl)); (case hp => exact (Reps.none _ _))
                  intro v388 w8 ho9 hb hg_ hnew_
                  clear hg_ hnew_
                  (first | rw [← Ny387.out] at ho9 | (simp only [Int.reduceToNat] at ho9; rw [← Ny387.out] at ho9))
                  have n0_ := mk0 (Kd.R_lower ho9 (below_size (hA HB.out)))
                  have n1_ := mk0 (bB BK379.out hb)
                  have n2_ := mk0 (bB BK380.out hb)
                  have n3_ := mk0 (below_step (hA HB.out) hb)
                  clear BK379
                  clear BK380
                  clear HB
                  have HO389 := n0_
                  have BK379 := n1_
                  have BK380 := n2_
                  have HB := n3_
                  clear n0_ n1_ n2_ n3_
                  clear hb ho9
                  refine hK.out _ _ ⟨(blk_cell BK379.out 0).trans rfl, (blk_cell BK379.out 1).trans rfl, (blk_cell BK379.out 2).trans rfl⟩ (fun hHeld => ?_)
                  clear hK K
                  refine norm_ (a' := ?_) ?_ ?_
                  rotate_left
                  ·show Act.put _ (some 7) _ = _
                   simp only [Act.put, s1, s2, s3, i64_w]
                   rfl
                  exact norm_ (by first | (simp only [putAll, Act.put, s1, s2, s3]; done) | (simp only [putAll, Act.put, s1, s2, s3]; rfl)) (hJ4 (v388) _ ⟨hHeld, (rA HO389.out), (bA BK379.out), (bA BK380.out), (hA HB.out)⟩)
                 ·skip
                  refine Kd.R_lit_step (Kd.int .i64) _ 3 ?hg (N := 11) ?hd (xs := ([] : List Int)) (inner := []) (ok := fun _ => True) (okp := fun _ => True) ?hr ?hp (fun _ hk => hk) trivial (Below.refl _ _) (Nat.le_refl _) (by simp) ?_; (case hd | hg => rfl); (case hr => first | (go_simp; done) | (go_simp; rfl)); (case hp => exact (Reps.none _ _))
                  intro v394 w8 ho9 hb hg_ hnew_
                  clear hg_ hnew_
                  (first | rw [← Ny393.out] at ho9 | (simp only [Int.reduceToNat] at ho9; rw [← Ny393.out] at ho9))
                  have n0_ := mk0 (Kd.R_lower ho9 (below_size (hA HB.out)))
                  have n1_ := mk0 (bB BK379.out hb)
                  have n2_ := mk0 (bB BK380.out hb)
                  have n3_ := mk0 (below_step (hA HB.out) hb)
                  clear BK379
                  clear BK380
                  clear HB
                  have HO395 := n0_
                  have BK379 := n1_
                  have BK380 := n2_
                  have HB := n3_
                  clear n0_ n1_ n2_ n3_
                  clear hb ho9
                  refine hK.out _ _ ⟨(blk_cell BK379.out 0).trans rfl, (blk_cell BK379.out 1).trans rfl, (blk_cell BK379.out 2).trans rfl⟩ (fun hHeld => ?_)
                  clear hK K
                  refine norm_ (a' := ?_) ?_ ?_
                  rotate_left
                  ·show Act.put _ (some 11) _ = _
                   simp only [Act.put, s1, s2, s3, i64_w]
                   rfl
                  exact norm_ (by first | (simp only [putAll, Act.put, s1, s2, s3]; done) | (simp only [putAll, Act.put, s1, s2, s3]; rfl)) (hJ8 (v394) _ ⟨hHeld, (rA HO395.out), (bA BK379.out), (bA BK380.out), (hA HB.out)⟩)
                ·skip
                 rintro v394 w10 ⟨hS_, h0_, h1_, h2_, h3_⟩
                 have n0_ : Aside0 (Kd.R (Kd.int .i64) 3 w10 w.heap.size (fun _ => True) v394 y393) := ⟨h0_⟩
                 have n1_ : Aside0 (w10.heap[gb379]? = some (.cells #[.slice Ap lp.length cp, .slice Aq lq.length cq, .slice Ar lr.length cr] 29 (0, 0))) := ⟨h1_⟩
                 have n2_ : Aside0 (w10.heap[gb380]? = some (.cells #[.slice none 0 0, .slice none 0 0, .slice none 0 0] 29 (0, 0))) := ⟨h2_⟩
                 have n3_ : Aside0 (Below w.heap.size w w10) := ⟨h3_⟩
                 clear BK379
                 clear BK380
                 clear HB
                 clear h0_ h1_ h2_ h3_
                 have HO395 := n0_
                 have BK379 := n1_
                 have BK380 := n2_
                 have HB := n3_
                 clear n0_ n1_ n2_ n3_
                 have hHeld : w10.cell? ⟨gb379, 0, none⟩ = some (.slice Ap lp.length cp) ∧ w10.cell? ⟨gb379, 1, none⟩ = some (.slice Aq lq.length cq) ∧ w10.cell? ⟨gb379, 2, none⟩ = some (.slice Ar lr.length cr) := hS_
                 refine norm_ (a' := ?_) ?_ ?_
                 rotate_left
                 ·simp only [putAll, Act.put, s1, s2, s3]
                  rfl
                 refine two_ (i := 0) (j := 4) (Ni := some 3) (Nj := some 7) #[I,I,I,O,O,I,I,O,I,I,I,O,O,O] #[O,I,I,O,I,I,I,O,I,I,I,O,O,O] rfl rfl rfl rfl (two_of HT_.out (by kernel_rfl)) (by decide) (by decide) (fun K hK => ?_) (fun K hK => ?_)
                 ·skip
                  refine Kd.R_lit_step k50 _ 50 ?hg (N := 3) ?hd (xs := ([] : List (S50))) (inner := []) (ok := fun _ => True) (okp := fun _ => True) ?hr ?hp (fun _ hk => hk) trivial (Below.refl _ _) (Nat.le_refl _) (by simp) ?_; (case hd | hg => rfl); (case hr => first | (go_simp; done) | (go_simp; rfl)); (case hp => exact (Reps.none _ _))
                  intro v382 w11 ho12 hb hg_ hnew_
                  clear hg_ hnew_
                  (first | rw [← Ny381.out] at ho12 | (simp only [Int.reduceToNat] at ho12; rw [← Ny381.out] at ho12))
                  have n0_ := mk0 (Kd.R_below (rA HO395.out) hb)
                  have n1_ := mk0 (Kd.R_lower ho12 (below_size (hA HB.out)))
                  have n2_ := mk0 (bB BK379.out hb)
                  have n3_ := mk0 (bB BK380.out hb)
                  have n4_ := mk0 (below_step (hA HB.out) hb)
                  clear HO395
                  clear BK379
                  clear BK380
                  clear HB
                  have HO395 := n0_
                  have HO383 := n1_
                  have BK379 := n2_
                  have BK380 := n3_
                  have HB := n4_
                  clear n0_ n1_ n2_ n3_ n4_
                  clear hb ho12
                  refine hK.out _ _ ⟨(blk_cell BK379.out 0).trans rfl, (blk_cell BK379.out 1).trans rfl, (blk_cell BK379.out 2).trans rfl⟩ (fun hHeld => ?_)
                  clear hK K
                  refine norm_ (a' := ?_) ?_ ?_
                  rotate_left
                  ·show Act.put _ (some 3) _ = _
                   simp only [Act.put, s1, s2, s3, i64_w]
                   rfl
                  exact norm_ (by first | (simp only [putAll, Act.put, s1, s2, s3]; done) | (simp only [putAll, Act.put, s1, s2, s3]; rfl)) (hJ0_8 (v382, v394) _ ⟨hHeld, (rA HO383.out), (rA HO395.out), (bA BK379.out), (bA BK380.out), (hA HB.out)⟩)
                 ·skip
                  refine Kd.R_lit_step (Kd.int .i64) _ 3 ?hg (N := 7) ?hd (xs := ([] : List Int)) (inner := []) (ok := fun _ => True) (okp := fun _ => True) ?hr ?hp (fun _ hk => hk) trivial (Below.refl _ _) (Nat.le_refl _) (by simp) ?_; (case hd | hg => rfl); (case hr => first | (go_simp; done) | (go_simp; rfl)); (case hp => exact (Reps.none _ _))
                  intro v388 w11 ho12 hb hg_ hnew_
                  clear hg_ hnew_
                  (first | rw [← Ny387.out] at ho12 | (simp only [Int.reduceToNat] at ho12; rw [← Ny387.out] at ho12))
                  have n0_ := mk0 (Kd.R_elder' (rA HO395.out) (Kd.R_base ho12) hb)
                  have n1_ := mk0 (Kd.R_lower (Kd.R_new' ho12 (Kd.R_lt (rA HO395.out))) (below_size (hA HB.out)))
                  have n2_ := mk0 (bB BK379.out hb)
                  have n3_ := mk0 (bB BK380.out hb)
                  have n4_ := mk0 (below_step (hA HB.out) hb)
                  clear HO395
                  clear BK379
                  clear BK380
                  clear HB
                  have HO395 := n0_
                  have HO389 := n1_
                  have BK379 := n2_
                  have BK380 := n3_
                  have HB := n4_
                  clear n0_ n1_ n2_ n3_ n4_
                  clear hb ho12
                  refine hK.out _ _ ⟨(blk_cell BK379.out 0).trans rfl, (blk_cell BK379.out 1).trans rfl, (blk_cell BK379.out 2).trans rfl⟩ (fun hHeld => ?_)
                  clear hK K
                  refine norm_ (a' := ?_) ?_ ?_
                  rotate_left
                  ·show Act.put _ (some 7) _ = _
                   simp only [Act.put, s1, s2, s3, i64_w]
                   rfl
                  exact norm_ (by first | (simp only [putAll, Act.put, s1, s2, s3]; done) | (simp only [putAll, Act.put, s1, s2, s3]; rfl)) (hJ4_8 (v388, v394) _ ⟨hHeld, (rC (a := by exact Kd.R_mono HO389.out (fun _ hk => hk.2))), (rC (a := by exact Kd.R_mono HO395.out (fun _ hk => hk.2))), (bA BK379.out), (bA BK380.out), (hA HB.out)⟩)
               ·skip
                rintro v388 w10 ⟨hS_, h0_, h1_, h2_, h3_⟩
                have n0_ : Aside0 (Kd.R (Kd.int .i64) 3 w10 w.heap.size (fun _ => True) v388 y387) := ⟨h0_⟩
                have n1_ : Aside0 (w10.heap[gb379]? = some (.cells #[.slice Ap lp.length cp, .slice Aq lq.length cq, .slice Ar lr.length cr] 29 (0, 0))) := ⟨h1_⟩
                have n2_ : Aside0 (w10.heap[gb380]? = some (.cells #[.slice none 0 0, .slice none 0 0, .slice none 0 0] 29 (0, 0))) := ⟨h2_⟩
                have n3_ : Aside0 (Below w.heap.size w w10) := ⟨h3_⟩
                clear BK379
                clear BK380
                clear HB
                clear h0_ h1_ h2_ h3_
                have HO389 := n0_
                have BK379 := n1_
                have BK380 := n2_
                have HB := n3_
                clear n0_ n1_ n2_ n3_
                have hHeld : w10.cell? ⟨gb379, 0, none⟩ = some (.slice Ap lp.length cp) ∧ w10.cell? ⟨gb379, 1, none⟩ = some (.slice Aq lq.length cq) ∧ w10.cell? ⟨gb379, 2, none⟩ = some (.slice Ar lr.length cr) := hS_
                refine norm_ (a' := ?_) ?_ ?_
                rotate_left
                ·simp only [putAll, Act.put, s1, s2, s3]
                 rfl
                refine two_ (i := 0) (j := 8) (Ni := some 3) (Nj := some 11) #[I,I,I,O,I,I,I,O,O,I,I,O,O,O] #[O,I,I,O,I,I,I,O,I,I,I,O,O,O] rfl rfl rfl rfl (two_of HT_.out (by kernel_rfl)) (by decide) (by decide) (fun K hK => ?_) (fun K hK => ?_)
                ·skip
                 refine Kd.R_lit_step k50 _ 50 ?hg (N := 3) ?hd (xs := ([] : List (S50))) (inner := []) (ok := fun _ => True) (okp := fun _ => True) ?hr ?hp (fun _ hk => hk) trivial (Below.refl _ _) (Nat.le_refl _) (by simp) ?_; (case hd | hg => rfl); (case hr => first | (go_simp; done) | (go_simp; rfl)); (case hp => exact (Reps.none _ _))
                 intro v382 w11 ho12 hb hg_ hnew_
                 clear hg_ hnew_
                 (first | rw [← Ny381.out] at ho12 | (simp only [Int.reduceToNat] at ho12; rw [← Ny381.out] at ho12))
                 have n0_ := mk0 (Kd.R_below (rA HO389.out) hb)
                 have n1_ := mk0 (Kd.R_lower ho12 (below_size (hA HB.out)))
                 have n2_ := mk0 (bB BK379.out hb)
                 have n3_ := mk0 (bB BK380.out hb)
                 have n4_ := mk0 (below_step (hA HB.out) hb)
                 clear HO389
                 clear BK379
                 clear BK380
                 clear HB
                 have HO389 := n0_
                 have HO383 := n1_
                 have BK379 := n2_
                 have BK380 := n3_
                 have HB := n4_
                 clear n0_ n1_ n2_ n3_ n4_
                 clear hb ho12
                 refine hK.out _ _ ⟨(blk_cell BK379.out 0).trans rfl, (blk_cell BK379.out 1).trans rfl, (blk_cell BK379.out 2).trans rfl⟩ (fun hHeld => ?_)
                 clear hK K
                 refine norm_ (a' := ?_) ?_ ?_
                 rotate_left
                 ·show Act.put _ (some 3) _ = _
                  simp only [Act.put, s1, s2, s3, i64_w]
                  rfl
                 exact norm_ (by first | (simp only [putAll, Act.put, s1, s2, s3]; done) | (simp only [putAll, Act.put, s1, s2, s3]; rfl)) (hJ0_4 (v382, v388) _ ⟨hHeld, (rA HO383.out), (rA HO389.out), (bA BK379.out), (bA BK380.out), (hA HB.out)⟩)
                ·skip
                 refine Kd.R_lit_step (Kd.int .i64) _ 3 ?hg (N := 11) ?hd (xs := ([] : List Int)) (inner := []) (ok := fun _ => True) (okp := fun _ => True) ?hr ?hp (fun _ hk => hk) trivial (Below.refl _ _) (Nat.le_refl _) (by simp) ?_; (case hd | hg => rfl); (case hr => first | (go_simp; done) | (go_simp; rfl)); (case hp => exact (Reps.none _ _))
                 intro v394 w11 ho12 hb hg_ hnew_
                 clear hg_ hnew_
                 (first | rw [← Ny393.out] at ho12 | (simp only [Int.reduceToNat] at ho12; rw [← Ny393.out] at ho12))
                 have n0_ := mk0 (Kd.R_elder' (rA HO389.out) (Kd.R_base ho12) hb)
                 have n1_ := mk0 (Kd.R_lower (Kd.R_new' ho12 (Kd.R_lt (rA HO389.out))) (below_size (hA HB.out)))
                 have n2_ := mk0 (bB BK379.out hb)
                 have n3_ := mk0 (bB BK380.out hb)
                 have n4_ := mk0 (below_step (hA HB.out) hb)
                 clear HO389
                 clear BK379
                 clear BK380
                 clear HB
                 have HO389 := n0_
                 have HO395 := n1_
                 have BK379 := n2_
                 have BK380 := n3_
                 have HB := n4_
                 clear n0_ n1_ n2_ n3_ n4_
                 clear hb ho12
                 refine hK.out _ _ ⟨(blk_cell BK379.out 0).trans rfl, (blk_cell BK379.out 1).trans rfl, (blk_cell BK379.out 2).trans rfl⟩ (fun hHeld => ?_)
                 clear hK K
                 refine norm_ (a' := ?_) ?_ ?_
                 rotate_left
                 ·show Act.put _ (some 11) _ = _
                  simp only [Act.put, s1, s2, s3, i64_w]
                  rfl
                 exact norm_ (by first | (simp only [putAll, Act.put, s1, s2, s3]; done) | (simp only [putAll, Act.put, s1, s2, s3]; rfl)) (hJ4_8 (v388, v394) _ ⟨hHeld, (rC (a := by exact Kd.R_mono HO389.out (fun _ hk => hk.2))), (rC (a := by exact Kd.R_mono HO395.out (fun _ hk => hk.2))), (bA BK379.out), (bA BK380.out), (hA HB.out)⟩)
              ·skip
               rintro v382 w10 ⟨hS_, h0_, h1_, h2_, h3_⟩
               have n0_ : Aside0 (Kd.R k50 50 w10 w.heap.size (fun _ => True) v382 y381) := ⟨h0_⟩
               have n1_ : Aside0 (w10.heap[gb379]? = some (.cells #[.slice Ap lp.length cp, .slice Aq lq.length cq, .slice Ar lr.length cr] 29 (0, 0))) := ⟨h1_⟩
               have n2_ : Aside0 (w10.heap[gb380]? = some (.cells #[.slice none 0 0, .slice none 0 0, .slice none 0 0] 29 (0, 0))) := ⟨h2_⟩
               have n3_ : Aside0 (Below w.heap.size w w10) := ⟨h3_⟩
               clear BK379
               clear BK380
               clear HB
               clear h0_ h1_ h2_ h3_
               have HO383 := n0_
               have BK379 := n1_
               have BK380 := n2_
               have HB := n3_
               clear n0_ n1_ n2_ n3_
               have hHeld : w10.cell? ⟨gb379, 0, none⟩ = some (.slice Ap lp.length cp) ∧ w10.cell? ⟨gb379, 1, none⟩ = some (.slice Aq lq.length cq) ∧ w10.cell? ⟨gb379, 2, none⟩ = some (.slice Ar lr.length cr) := hS_
               refine norm_ (a' := ?_) ?_ ?_
               rotate_left
               ·simp only [putAll, Act.put, s1, s2, s3]
                rfl
               refine three_ (i := 3) (j := 4) (k := 8) (Ni := some 6) (Nj := some 7) (Nk := some 11) #[I,I,I,I,O,I,I,O,O,I,I,O,O,O] #[I,I,I,O,I,I,I,O,O,I,I,O,O,O] #[I,I,I,O,O,I,I,O,I,I,I,O,O,O] rfl rfl rfl rfl rfl rfl (three_of HT_.out (by kernel_rfl)) (by decide) (by decide) (by decide) (fun K hK => ?_) (fun K hK => ?_) (fun K hK => ?_)
               ·skip
                refine Kd.R_append_rows_step k50 (w0 := w) w.heap.size (by rfl) (.tmp 3) (.tmp 5) 27 50 (.agg #[(.int .i64 0), (.int .i64 0), (.int .i64 0)]) 24 rfl Try.underlying27 info50 rfl (by decide) (by omega) v382 y381 lp _ _ _ (fun _ => True) (fun _ => False) rfl rfl ?aO ?aR (fun _ _ h => h) (fun _ h => h.elim) ?aF ?aB ?aS ?aL ?_
                (case aR => exact cA (Kd.C_below HR0_0.out HB.out))
                (case aB => exact (hA HB.out))
                (case aF => exact (fun _ _ => trivial))
                (case aO => exact (rA HO383.out))
                (case aS => exact (below_size (hA HB.out)))
                (case aL => have := LMc2.out; omega)
                intro v385 w11 ho hb hg hat
                rw [← Ny384.out] at ho
                have n0_ := mk0 (blk_grown (g := gb379) (o := .cells #[.slice Ap lp.length cp, .slice Aq lq.length cq, .slice Ar lr.length cr] 29 (0, 0)) (bA BK379.out) hg (Kd.R_ne HO383.out BK379.out (by decide)))
                have n1_ := mk0 (blk_grown (g := gb380) (o := .cells #[.slice none 0 0, .slice none 0 0, .slice none 0 0] 29 (0, 0)) (bA BK380.out) hg (Kd.R_ne HO383.out BK380.out (by decide)))
                have n2_ := mk0 (hb)
                have n3_ := mk0 (ho)
                clear BK379
                clear BK380
                clear HB
                clear HO383
                have BK379 := n0_
                have BK380 := n1_
                have HB := n2_
                have HO386 := n3_
                clear n0_ n1_ n2_ n3_
                clear ho hb hg hat
                refine hK.out _ _ ⟨(blk_cell BK379.out 0).trans rfl, (blk_cell BK379.out 1).trans rfl, (blk_cell BK379.out 2).trans rfl⟩ (fun hHeld => ?_)
                clear hK K
                refine norm_ (a' := ?_) ?_ ?_
                rotate_left
                ·show Act.put _ (some 6) _ = _
                 simp only [Act.put, s1, s2, s3, i64_w]
                 rfl
                exact norm_ (by first | (simp only [putAll, Act.put, s1, s2, s3]; done) | (simp only [putAll, Act.put, s1, s2, s3]; rfl)) (hJ0_3 (v382, v385) _ ⟨hHeld, (rA HO386.out), (bA BK379.out), (bA BK380.out), (hA HB.out)⟩)
               ·skip
                refine Kd.R_lit_step (Kd.int .i64) _ 3 ?hg (N := 7) ?hd (xs := ([] : List Int)) (inner := []) (ok := fun _ => True) (okp := fun _ => True) ?hr ?hp (fun _ hk => hk) trivial (Below.refl _ _) (Nat.le_refl _) (by simp) ?_; (case hd | hg => rfl); (case hr => first | (go_simp; done) | (go_simp; rfl)); (case hp => exact (Reps.none _ _))
                intro v388 w11 ho12 hb hg_ hnew_
                clear hg_ hnew_
                (first | rw [← Ny387.out] at ho12 | (simp only [Int.reduceToNat] at ho12; rw [← Ny387.out] at ho12))
                have n0_ := mk0 (Kd.R_below (rA HO383.out) hb)
                have n1_ := mk0 (Kd.R_lower ho12 (below_size (hA HB.out)))
                have n2_ := mk0 (bB BK379.out hb)
                have n3_ := mk0 (bB BK380.out hb)
                have n4_ := mk0 (below_step (hA HB.out) hb)
                clear HO383
                clear BK379
                clear BK380
                clear HB
                have HO383 := n0_
                have HO389 := n1_
                have BK379 := n2_
                have BK380 := n3_
                have HB := n4_
                clear n0_ n1_ n2_ n3_ n4_
                clear hb ho12
                refine hK.out _ _ ⟨(blk_cell BK379.out 0).trans rfl, (blk_cell BK379.out 1).trans rfl, (blk_cell BK379.out 2).trans rfl⟩ (fun hHeld => ?_)
                clear hK K
                refine norm_ (a' := ?_) ?_ ?_
                rotate_left
                ·show Act.put _ (some 7) _ = _
                 simp only [Act.put, s1, s2, s3, i64_w]
                 rfl
                exact norm_ (by first | (simp only [putAll, Act.put, s1, s2, s3]; done) | (simp only [putAll, Act.put, s1, s2, s3]; rfl)) (hJ0_4 (v382, v388) _ ⟨hHeld, (rA HO383.out), (rA HO389.out), (bA BK379.out), (bA BK380.out), (hA HB.out)⟩)
               ·skip
                refine Kd.R_lit_step (Kd.int .i64) _ 3 ?hg (N := 11) ?hd (xs := ([] : List Int)) (inner := []) (ok := fun _ => True) (okp := fun _ => True) ?hr ?hp (fun _ hk => hk) trivial (Below.refl _ _) (Nat.le_refl _) (by simp) ?_; (case hd | hg => rfl); (case hr => first | (go_simp; done) | (go_simp; rfl)); (case hp => exact (Reps.none _ _))
                intro v394 w11 ho12 hb hg_ hnew_
                clear hg_ hnew_
                (first | rw [← Ny393.out] at ho12 | (simp only [Int.reduceToNat] at ho12; rw [← Ny393.out] at ho12))
                have n0_ := mk0 (Kd.R_below (rA HO383.out) hb)
                have n1_ := mk0 (Kd.R_lower ho12 (below_size (hA HB.out)))
                have n2_ := mk0 (bB BK379.out hb)
                have n3_ := mk0 (bB BK380.out hb)
                have n4_ := mk0 (below_step (hA HB.out) hb)
                clear HO383
                clear BK379
                clear BK380
                clear HB
                have HO383 := n0_
                have HO395 := n1_
                have BK379 := n2_
                have BK380 := n3_
                have HB := n4_
                clear n0_ n1_ n2_ n3_ n4_
                clear hb ho12
                refine hK.out _ _ ⟨(blk_cell BK379.out 0).trans rfl, (blk_cell BK379.out 1).trans rfl, (blk_cell BK379.out 2).trans rfl⟩ (fun hHeld => ?_)
                clear hK K
                refine norm_ (a' := ?_) ?_ ?_
                rotate_left
                ·show Act.put _ (some 11) _ = _
                 simp only [Act.put, s1, s2, s3, i64_w]
                 rfl
                exact norm_ (by first | (simp only [putAll, Act.put, s1, s2, s3]; done) | (simp only [putAll, Act.put, s1, s2, s3]; rfl)) (hJ0_8 (v382, v394) _ ⟨hHeld, (rA HO383.out), (rA HO395.out), (bA BK379.out), (bA BK380.out), (hA HB.out)⟩)
             ·skip
              rintro ⟨v388, v394⟩ w12 ⟨hS_, h0_, h1_, h2_, h3_, h4_⟩
              have n0_ : Aside0 (Kd.R (Kd.int .i64) 3 w12 w.heap.size (fun k_ => some k_ ≠ (v394 : Value).ownBlock) v388 y387) := ⟨h0_⟩
              have n1_ : Aside0 (Kd.R (Kd.int .i64) 3 w12 w.heap.size (fun k_ => some k_ ≠ (v388 : Value).ownBlock) v394 y393) := ⟨h1_⟩
              have n2_ : Aside0 (w12.heap[gb379]? = some (.cells #[.slice Ap lp.length cp, .slice Aq lq.length cq, .slice Ar lr.length cr] 29 (0, 0))) := ⟨h2_⟩
              have n3_ : Aside0 (w12.heap[gb380]? = some (.cells #[.slice none 0 0, .slice none 0 0, .slice none 0 0] 29 (0, 0))) := ⟨h3_⟩
              have n4_ : Aside0 (Below w.heap.size w w12) := ⟨h4_⟩
              clear BK379
              clear BK380
              clear HB
              clear h0_ h1_ h2_ h3_ h4_
              have HO389 := n0_
              have HO395 := n1_
              have BK379 := n2_
              have BK380 := n3_
              have HB := n4_
              clear n0_ n1_ n2_ n3_ n4_
              have hHeld : w12.cell? ⟨gb379, 0, none⟩ = some (.slice Ap lp.length cp) ∧ w12.cell? ⟨gb379, 1, none⟩ = some (.slice Aq lq.length cq) ∧ w12.cell? ⟨gb379, 2, none⟩ = some (.slice Ar lr.length cr) := hS_
              refine norm_ (a' := ?_) ?_ ?_
              rotate_left
              ·simp only [putAll, Act.put, s1, s2, s3]
               rfl
              refine one_ (i := 0) (N := some 3) #[I,I,I,O,I,I,I,O,I,I,I,O,O,O] rfl rfl (one_of HT_.out (by kernel_rfl)) (by decide) (fun K hK => ?_)
              refine Kd.R_lit_step k50 _ 50 ?hg (N := 3) ?hd (xs := ([] : List (S50))) (inner := []) (ok := fun _ => True) (okp := fun _ => True) ?hr ?hp (fun _ hk => hk) trivial (Below.refl _ _) (Nat.le_refl _) (by simp) ?_; (case hd | hg => rfl); (case hr => first | (go_simp; done) | (go_simp; rfl)); (case hp => exact (Reps.none _ _))
              intro v382 w13 ho14 hb hg_ hnew_
              clear hg_ hnew_
              (first | rw [← Ny381.out] at ho14 | (simp only [Int.reduceToNat] at ho14; rw [← Ny381.out] at ho14))
              have n0_ := mk0 (Kd.R_below (rA HO389.out) hb)
              have n1_ := mk0 (Kd.R_below (rA HO395.out) hb)
              have n2_ := mk0 (Kd.R_lower ho14 (below_size (hA HB.out)))
              have n3_ := mk0 (bB BK379.out hb)
              have n4_ := mk0 (bB BK380.out hb)
              have n5_ := mk0 (below_step (hA HB.out) hb)
              clear HO389
              clear HO395
              clear BK379
              clear BK380
              clear HB
              have HO389 := n0_
              have HO395 := n1_
              have HO383 := n2_
              have BK379 := n3_
              have BK380 := n4_
              have HB := n5_
              clear n0_ n1_ n2_ n3_ n4_ n5_
              clear hb ho14
              refine hK.out _ _ ⟨(blk_cell BK379.out 0).trans rfl, (blk_cell BK379.out 1).trans rfl, (blk_cell BK379.out 2).trans rfl⟩ (fun hHeld => ?_)
              clear hK K
              refine norm_ (a' := ?_) ?_ ?_
              rotate_left
              ·show Act.put _ (some 3) _ = _
               simp only [Act.put, s1, s2, s3, i64_w]
               rfl
              exact norm_ (by first | (simp only [putAll, Act.put, s1, s2, s3]; done) | (simp only [putAll, Act.put, s1, s2, s3]; rfl)) (hJ0_4_8 (v382, v388, v394) _ ⟨hHeld, (rA HO383.out), (rA HO389.out), (rA HO395.out), (bA BK379.out), (bA BK380.out), (hA HB.out)⟩)
            ·skip
             rintro ⟨v382, v394⟩ w12 ⟨hS_, h0_, h1_, h2_, h3_, h4_⟩
             have n0_ : Aside0 (Kd.R k50 50 w12 w.heap.size (fun _ => True) v382 y381) := ⟨h0_⟩
             have n1_ : Aside0 (Kd.R (Kd.int .i64) 3 w12 w.heap.size (fun _ => True) v394 y393) := ⟨h1_⟩
             have n2_ : Aside0 (w12.heap[gb379]? = some (.cells #[.slice Ap lp.length cp, .slice Aq lq.length cq, .slice Ar lr.length cr] 29 (0, 0))) := ⟨h2_⟩
             have n3_ : Aside0 (w12.heap[gb380]? = some (.cells #[.slice none 0 0, .slice none 0 0, .slice none 0 0] 29 (0, 0))) := ⟨h3_⟩
             have n4_ : Aside0 (Below w.heap.size w w12) := ⟨h4_⟩
             clear BK379
             clear BK380
             clear HB
             clear h0_ h1_ h2_ h3_ h4_
             have HO383 := n0_
             have HO395 := n1_
             have BK379 := n2_
             have BK380 := n3_
             have HB := n4_
             clear n0_ n1_ n2_ n3_ n4_
             have hHeld : w12.cell? ⟨gb379, 0, none⟩ = some (.slice Ap lp.length cp) ∧ w12.cell? ⟨gb379, 1, none⟩ = some (.slice Aq lq.length cq) ∧ w12.cell? ⟨gb379, 2, none⟩ = some (.slice Ar lr.length cr) := hS_
             refine norm_ (a' := ?_) ?_ ?_
             rotate_left
             ·simp only [putAll, Act.put, s1, s2, s3]
              rfl
             refine two_ (i := 3) (j := 4) (Ni := some 6) (Nj := some 7) #[I,I,I,I,O,I,I,O,I,I,I,O,O,O] #[I,I,I,O,I,I,I,O,I,I,I,O,O,O] rfl rfl rfl rfl (two_of HT_.out (by kernel_rfl)) (by decide) (by decide) (fun K hK => ?_) (fun K hK => ?_)
             ·skip
              refine Kd.R_append_rows_step k50 (w0 := w) w.heap.size (by rfl) (.tmp 3) (.tmp 5) 27 50 (.agg #[(.int .i64 0), (.int .i64 0), (.int .i64 0)]) 24 rfl Try.underlying27 info50 rfl (by decide) (by omega) v382 y381 lp _ _ _ (fun _ => True) (fun _ => False) rfl rfl ?aO ?aR (fun _ _ h => h) (fun _ h => h.elim) ?aF ?aB ?aS ?aL ?_
              (case aR => exact cA (Kd.C_below HR0_0.out HB.out))
              (case aB => exact (hA HB.out))
              (case aF => exact (fun _ _ => trivial))
              (case aO => exact (rA HO383.out))
              (case aS => exact (below_size (hA HB.out)))
              (case aL => have := LMc2.out; omega)
              intro v385 w13 ho hb hg hat
              rw [← Ny384.out] at ho
              have n0_ := mk0 (blk_grown (g := gb379) (o := .cells #[.slice Ap lp.length cp, .slice Aq lq.length cq, .slice Ar lr.length cr] 29 (0, 0)) (bA BK379.out) hg (Kd.R_ne HO383.out BK379.out (by decide)))
              have n1_ := mk0 (blk_grown (g := gb380) (o := .cells #[.slice none 0 0, .slice none 0 0, .slice none 0 0] 29 (0, 0)) (bA BK380.out) hg (Kd.R_ne HO383.out BK380.out (by decide)))
              have n2_ := mk0 (Kd.R_over' (rA HO395.out) (Kd.R_typed (rA HO383.out)) (by decide) hg)
              have n3_ := mk0 (hb)
              have n4_ := mk0 (ho)
              clear BK379
              clear BK380
              clear HO395
              clear HB
              clear HO383
              have BK379 := n0_
              have BK380 := n1_
              have HO395 := n2_
              have HB := n3_
              have HO386 := n4_
              clear n0_ n1_ n2_ n3_ n4_
              clear ho hb hg hat
              refine hK.out _ _ ⟨(blk_cell BK379.out 0).trans rfl, (blk_cell BK379.out 1).trans rfl, (blk_cell BK379.out 2).trans rfl⟩ (fun hHeld => ?_)
              clear hK K
              refine norm_ (a' := ?_) ?_ ?_
              rotate_left
              ·show Act.put _ (some 6) _ = _
               simp only [Act.put, s1, s2, s3, i64_w]
               rfl
              exact norm_ (by first | (simp only [putAll, Act.put, s1, s2, s3]; done) | (simp only [putAll, Act.put, s1, s2, s3]; rfl)) (hJ0_3_8 (v382, v385, v394) _ ⟨hHeld, (rA HO386.out), (rA HO395.out), (bA BK379.out), (bA BK380.out), (hA HB.out)⟩)
             ·skip
              refine Kd.R_lit_step (Kd.int .i64) _ 3 ?hg (N := 7) ?hd (xs := ([] : List Int)) (inner := []) (ok := fun _ => True) (okp := fun _ => True) ?hr ?hp (fun _ hk => hk) trivial (Below.refl _ _) (Nat.le_refl _) (by simp) ?_; (case hd | hg => rfl); (case hr => first | (go_simp; done) | (go_simp; rfl)); (case hp => exact (Reps.none _ _))
              intro v388 w13 ho14 hb hg_ hnew_
              clear hg_ hnew_
              (first | rw [← Ny387.out] at ho14 | (simp only [Int.reduceToNat] at ho14; rw [← Ny387.out] at ho14))
              have n0_ := mk0 (Kd.R_below (rA HO383.out) hb)
              have n1_ := mk0 (Kd.R_elder' (rA HO395.out) (Kd.R_base ho14) hb)
              have n2_ := mk0 (Kd.R_lower (Kd.R_new' ho14 (Kd.R_lt (rA HO395.out))) (below_size (hA HB.out)))
              have n3_ := mk0 (bB BK379.out hb)
              have n4_ := mk0 (bB BK380.out hb)
              have n5_ := mk0 (below_step (hA HB.out) hb)
              clear HO383
              clear HO395
              clear BK379
              clear BK380
              clear HB
              have HO383 := n0_
              have HO395 := n1_
              have HO389 := n2_
              have BK379 := n3_
              have BK380 := n4_
              have HB := n5_
              clear n0_ n1_ n2_ n3_ n4_ n5_
              clear hb ho14
              refine hK.out _ _ ⟨(blk_cell BK379.out 0).trans rfl, (blk_cell BK379.out 1).trans rfl, (blk_cell BK379.out 2).trans rfl⟩ (fun hHeld => ?_)
              clear hK K
              refine norm_ (a' := ?_) ?_ ?_
              rotate_left
              ·show Act.put _ (some 7) _ = _
               simp only [Act.put, s1, s2, s3, i64_w]
               rfl
              exact norm_ (by first | (simp only [putAll, Act.put, s1, s2, s3]; done) | (simp only [putAll, Act.put, s1, s2, s3]; rfl)) (hJ0_4_8 (v382, v388, v394) _ ⟨hHeld, (rA HO383.out), (rC (a := by exact Kd.R_mono HO389.out (fun _ hk => hk.2))), (rC (a := by exact Kd.R_mono HO395.out (fun _ hk => hk.2))), (bA BK379.out), (bA BK380.out), (hA HB.out)⟩)
           ·skip
            rintro ⟨v382, v388⟩ w12 ⟨hS_, h0_, h1_, h2_, h3_, h4_⟩
            have n0_ : Aside0 (Kd.R k50 50 w12 w.heap.size (fun _ => True) v382 y381) := ⟨h0_⟩
            have n1_ : Aside0 (Kd.R (Kd.int .i64) 3 w12 w.heap.size (fun _ => True) v388 y387) := ⟨h1_⟩
            have n2_ : Aside0 (w12.heap[gb379]? = some (.cells #[.slice Ap lp.length cp, .slice Aq lq.length cq, .slice Ar lr.length cr] 29 (0, 0))) := ⟨h2_⟩
            have n3_ : Aside0 (w12.heap[gb380]? = some (.cells #[.slice none 0 0, .slice none 0 0, .slice none 0 0] 29 (0, 0))) := ⟨h3_⟩
            have n4_ : Aside0 (Below w.heap.size w w12) := ⟨h4_⟩
            clear BK379
            clear BK380
            clear HB
            clear h0_ h1_ h2_ h3_ h4_
            have HO383 := n0_
            have HO389 := n1_
            have BK379 := n2_
            have BK380 := n3_
            have HB := n4_
            clear n0_ n1_ n2_ n3_ n4_
            have hHeld : w12.cell? ⟨gb379, 0, none⟩ = some (.slice Ap lp.length cp) ∧ w12.cell? ⟨gb379, 1, none⟩ = some (.slice Aq lq.length cq) ∧ w12.cell? ⟨gb379, 2, none⟩ = some (.slice Ar lr.length cr) := hS_
            refine norm_ (a' := ?_) ?_ ?_
            rotate_left
            ·simp only [putAll, Act.put, s1, s2, s3]
             rfl
            refine two_ (i := 3) (j := 8) (Ni := some 6) (Nj := some 11) #[I,I,I,I,I,I,I,O,O,I,I,O,O,O] #[I,I,I,O,I,I,I,O,I,I,I,O,O,O] rfl rfl rfl rfl (two_of HT_.out (by kernel_rfl)) (by decide) (by decide) (fun K hK => ?_) (fun K hK => ?_)
            ·skip
             refine Kd.R_append_rows_step k50 (w0 := w) w.heap.size (by rfl) (.tmp 3) (.tmp 5) 27 50 (.agg #[(.int .i64 0), (.int .i64 0), (.int .i64 0)]) 24 rfl Try.underlying27 info50 rfl (by decide) (by omega) v382 y381 lp _ _ _ (fun _ => True) (fun _ => False) rfl rfl ?aO ?aR (fun _ _ h => h) (fun _ h => h.elim) ?aF ?aB ?aS ?aL ?_
             (case aR => exact cA (Kd.C_below HR0_0.out HB.out))
             (case aB => exact (hA HB.out))
             (case aF => exact (fun _ _ => trivial))
             (case aO => exact (rA HO383.out))
             (case aS => exact (below_size (hA HB.out)))
             (case aL => have := LMc2.out; omega)
             intro v385 w13 ho hb hg hat
             rw [← Ny384.out] at ho
             have n0_ := mk0 (blk_grown (g := gb379) (o := .cells #[.slice Ap lp.length cp, .slice Aq lq.length cq, .slice Ar lr.length cr] 29 (0, 0)) (bA BK379.out) hg (Kd.R_ne HO383.out BK379.out (by decide)))
             have n1_ := mk0 (blk_grown (g := gb380) (o := .cells #[.slice none 0 0, .slice none 0 0, .slice none 0 0] 29 (0, 0)) (bA BK380.out) hg (Kd.R_ne HO383.out BK380.out (by decide)))
             have n2_ := mk0 (Kd.R_over' (rA HO389.out) (Kd.R_typed (rA HO383.out)) (by decide) hg)
             have n3_ := mk0 (hb)
             have n4_ := mk0 (ho)
             clear BK379
             clear BK380
             clear HO389
             clear HB
             clear HO383
             have BK379 := n0_
             have BK380 := n1_
             have HO389 := n2_
             have HB := n3_
             have HO386 := n4_
             clear n0_ n1_ n2_ n3_ n4_
             clear ho hb hg hat
             refine hK.out _ _ ⟨(blk_cell BK379.out 0).trans rfl, (blk_cell BK379.out 1).trans rfl, (blk_cell BK379.out 2).trans rfl⟩ (fun hHeld => ?_)
             clear hK K
             refine norm_ (a' := ?_) ?_ ?_
             rotate_left
             ·show Act.put _ (some 6) _ = _
              simp only [Act.put, s1, s2, s3, i64_w]
              rfl
             exact norm_ (by first | (simp only [putAll, Act.put, s1, s2, s3]; done) | (simp only [putAll, Act.put, s1, s2, s3]; rfl)) (hJ0_3_4 (v382, v385, v388) _ ⟨hHeld, (rA HO386.out), (rA HO389.out), (bA BK379.out), (bA BK380.out), (hA HB.out)⟩)
            ·skip
             refine Kd.R_lit_step (Kd.int .i64) _ 3 ?hg (N := 11) ?hd (xs := ([] : List Int)) (inner := []) (ok := fun _ => True) (okp := fun _ => True) ?hr ?hp (fun _ hk => hk) trivial (Below.refl _ _) (Nat.le_refl _) (by simp) ?_; (case hd | hg => rfl); (case hr => first | (go_simp; done) | (go_simp; rfl)); (case hp => exact (Reps.none _ _))
             intro v394 w13 ho14 hb hg_ hnew_
             clear hg_ hnew_
             (first | rw [← Ny393.out] at ho14 | (simp only [Int.reduceToNat] at ho14; rw [← Ny393.out] at ho14))
             have n0_ := mk0 (Kd.R_below (rA HO383.out) hb)
             have n1_ := mk0 (Kd.R_elder' (rA HO389.out) (Kd.R_base ho14) hb)
             have n2_ := mk0 (Kd.R_lower (Kd.R_new' ho14 (Kd.R_lt (rA HO389.out))) (below_size (hA HB.out)))
             have n3_ := mk0 (bB BK379.out hb)
             have n4_ := mk0 (bB BK380.out hb)
             have n5_ := mk0 (below_step (hA HB.out) hb)
             clear HO383
             clear HO389
             clear BK379
             clear BK380
             clear HB
             have HO383 := n0_
             have HO389 := n1_
             have HO395 := n2_
             have BK379 := n3_
             have BK380 := n4_
             have HB := n5_
             clear n0_ n1_ n2_ n3_ n4_ n5_
             clear hb ho14
             refine hK.out _ _ ⟨(blk_cell BK379.out 0).trans rfl, (blk_cell BK379.out 1).trans rfl, (blk_cell BK379.out 2).trans rfl⟩ (fun hHeld => ?_)
             clear hK K
             refine norm_ (a' := ?_) ?_ ?_
             rotate_left
             ·show Act.put _ (some 11) _ = _
              simp only [Act.put, s1, s2, s3, i64_w]
              rfl
             exact norm_ (by first | (simp only [putAll, Act.put, s1, s2, s3]; done) | (simp only [putAll, Act.put, s1, s2, s3]; rfl)) (hJ0_4_8 (v382, v388, v394) _ ⟨hHeld, (rA HO383.out), (rC (a := by exact Kd.R_mono HO389.out (fun _ hk => hk.2))), (rC (a := by exact Kd.R_mono HO395.out (fun _ hk => hk.2))), (bA BK379.out), (bA BK380.out), (hA HB.out)⟩)
          ·skip
           rintro ⟨v382, v385⟩ w11 ⟨hS_, h0_, h1_, h2_, h3_⟩
           have n0_ : Aside0 (Kd.R k50 50 w11 w.heap.size (fun _ => True) v385 y384) := ⟨h0_⟩
           have n1_ : Aside0 (w11.heap[gb379]? = some (.cells #[.slice Ap lp.length cp, .slice Aq lq.length cq, .slice Ar lr.length cr] 29 (0, 0))) := ⟨h1_⟩
           have n2_ : Aside0 (w11.heap[gb380]? = some (.cells #[.slice none 0 0, .slice none 0 0, .slice none 0 0] 29 (0, 0))) := ⟨h2_⟩
           have n3_ : Aside0 (Below w.heap.size w w11) := ⟨h3_⟩
           clear BK379
           clear BK380
           clear HB
           clear h0_ h1_ h2_ h3_
           have HO386 := n0_
           have BK379 := n1_
           have BK380 := n2_
           have HB := n3_
           clear n0_ n1_ n2_ n3_
           have hHeld : w11.cell? ⟨gb379, 0, none⟩ = some (.slice Ap lp.length cp) ∧ w11.cell? ⟨gb379, 1, none⟩ = some (.slice Aq lq.length cq) ∧ w11.cell? ⟨gb379, 2, none⟩ = some (.slice Ar lr.length cr) := hS_
           refine norm_ (a' := ?_) ?_ ?_
           rotate_left
           ·simp only [putAll, Act.put, s1, s2, s3]
            rfl
           refine two_ (i := 4) (j := 8) (Ni := some 7) (Nj := some 11) #[I,I,I,I,I,I,I,O,O,I,I,O,O,O] #[I,I,I,I,O,I,I,O,I,I,I,O,O,O] rfl rfl rfl rfl (two_of HT_.out (by kernel_rfl)) (by decide) (by decide) (fun K hK => ?_) (fun K hK => ?_)
           ·skip
            refine Kd.R_lit_step (Kd.int .i64) _ 3 ?hg (N := 7) ?hd (xs := ([] : List Int)) (inner := []) (ok := fun _ => True) (okp := fun _ => True) ?hr ?hp (fun _ hk => hk) trivial (Below.refl _ _) (Nat.le_refl _) (by simp) ?_; (case hd | hg => rfl); (case hr => first | (go_simp; done) | (go_simp; rfl)); (case hp => exact (Reps.none _ _))
            intro v388 w12 ho13 hb hg_ hnew_
            clear hg_ hnew_
            (first | rw [← Ny387.out] at ho13 | (simp only [Int.reduceToNat] at ho13; rw [← Ny387.out] at ho13))
            have n0_ := mk0 (Kd.R_below (rA HO386.out) hb)
            have n1_ := mk0 (Kd.R_lower ho13 (below_size (hA HB.out)))
            have n2_ := mk0 (bB BK379.out hb)
            have n3_ := mk0 (bB BK380.out hb)
            have n4_ := mk0 (below_step (hA HB.out) hb)
            clear HO386
            clear BK379
            clear BK380
            clear HB
            have HO386 := n0_
            have HO389 := n1_
            have BK379 := n2_
            have BK380 := n3_
            have HB := n4_
            clear n0_ n1_ n2_ n3_ n4_
            clear hb ho13
            refine hK.out _ _ ⟨(blk_cell BK379.out 0).trans rfl, (blk_cell BK379.out 1).trans rfl, (blk_cell BK379.out 2).trans rfl⟩ (fun hHeld => ?_)
            clear hK K
            refine norm_ (a' := ?_) ?_ ?_
            rotate_left
            ·show Act.put _ (some 7) _ = _
             simp only [Act.put, s1, s2, s3, i64_w]
             rfl
            exact norm_ (by first | (simp only [putAll, Act.put, s1, s2, s3]; done) | (simp only [putAll, Act.put, s1, s2, s3]; rfl)) (hJ0_3_4 (v382, v385, v388) _ ⟨hHeld, (rA HO386.out), (rA HO389.out), (bA BK379.out), (bA BK380.out), (hA HB.out)⟩)
           ·skip
            refine Kd.R_lit_step (Kd.int .i64) _ 3 ?hg (N := 11) ?hd (xs := ([] : List Int)) (inner := []) (ok := fun _ => True) (okp := fun _ => True) ?hr ?hp (fun _ hk => hk) trivial (Below.refl _ _) (Nat.le_refl _) (by simp) ?_; (case hd | hg => rfl); (case hr => first | (go_simp; done) | (go_simp; rfl)); (case hp => exact (Reps.none _ _))
            intro v394 w12 ho13 hb hg_ hnew_
            clear hg_ hnew_
            (first | rw [← Ny393.out] at ho13 | (simp only [Int.reduceToNat] at ho13; rw [← Ny393.out] at ho13))
            have n0_ := mk0 (Kd.R_below (rA HO386.out) hb)
            have n1_ := mk0 (Kd.R_lower ho13 (below_size (hA HB.out)))
            have n2_ := mk0 (bB BK379.out hb)
            have n3_ := mk0 (bB BK380.out hb)
            have n4_ := mk0 (below_step (hA HB.out) hb)
            clear HO386
            clear BK379
            clear BK380
            clear HB
            have HO386 := n0_
            have HO395 := n1_
            have BK379 := n2_
            have BK380 := n3_
            have HB := n4_
            clear n0_ n1_ n2_ n3_ n4_
            clear hb ho13
            refine hK.out _ _ ⟨(blk_cell BK379.out 0).trans rfl, (blk_cell BK379.out 1).trans rfl, (blk_cell BK379.out 2).trans rfl⟩ (fun hHeld => ?_)
            clear hK K
            refine norm_ (a' := ?_) ?_ ?_
            rotate_left
            ·show Act.put _ (some 11) _ = _
             simp only [Act.put, s1, s2, s3, i64_w]
             rfl
            exact norm_ (by first | (simp only [putAll, Act.put, s1, s2, s3]; done) | (simp only [putAll, Act.put, s1, s2, s3]; rfl)) (hJ0_3_8 (v382, v385, v394) _ ⟨hHeld, (rA HO386.out), (rA HO395.out), (bA BK379.out), (bA BK380.out), (hA HB.out)⟩)
         ·skip
          rintro ⟨v382, v388, v394⟩ w14 ⟨hS_, h0_, h1_, h2_, h3_, h4_, h5_⟩
          have n0_ : Aside0 (Kd.R k50 50 w14 w.heap.size (fun _ => True) v382 y381) := ⟨h0_⟩
          have n1_ : Aside0 (Kd.R (Kd.int .i64) 3 w14 w.heap.size (fun k_ => some k_ ≠ (v394 : Value).ownBlock) v388 y387) := ⟨h1_⟩
          have n2_ : Aside0 (Kd.R (Kd.int .i64) 3 w14 w.heap.size (fun k_ => some k_ ≠ (v388 : Value).ownBlock) v394 y393) := ⟨h2_⟩
          have n3_ : Aside0 (w14.heap[gb379]? = some (.cells #[.slice Ap lp.length cp, .slice Aq lq.length cq, .slice Ar lr.length cr] 29 (0, 0))) := ⟨h3_⟩
          have n4_ : Aside0 (w14.heap[gb380]? = some (.cells #[.slice none 0 0, .slice none 0 0, .slice none 0 0] 29 (0, 0))) := ⟨h4_⟩
          have n5_ : Aside0 (Below w.heap.size w w14) := ⟨h5_⟩
          clear BK379
          clear BK380
          clear HB
          clear h0_ h1_ h2_ h3_ h4_ h5_
          have HO383 := n0_
          have HO389 := n1_
          have HO395 := n2_
          have BK379 := n3_
          have BK380 := n4_
          have HB := n5_
          clear n0_ n1_ n2_ n3_ n4_ n5_
          have hHeld : w14.cell? ⟨gb379, 0, none⟩ = some (.slice Ap lp.length cp) ∧ w14.cell? ⟨gb379, 1, none⟩ = some (.slice Aq lq.length cq) ∧ w14.cell? ⟨gb379, 2, none⟩ = some (.slice Ar lr.length cr) := hS_
          refine norm_ (a' := ?_) ?_ ?_
          rotate_left
          ·simp only [putAll, Act.put, s1, s2, s3]
           rfl
          refine one_ (i := 3) (N := some 6) #[I,I,I,I,I,I,I,O,I,I,I,O,O,O] rfl rfl (one_of HT_.out (by kernel_rfl)) (by decide) (fun K hK => ?_)
          refine Kd.R_append_rows_step k50 (w0 := w) w.heap.size (by rfl) (.tmp 3) (.tmp 5) 27 50 (.agg #[(.int .i64 0), (.int .i64 0), (.int .i64 0)]) 24 rfl Try.underlying27 info50 rfl (by decide) (by omega) v382 y381 lp _ _ _ (fun _ => True) (fun _ => False) rfl rfl ?aO ?aR (fun _ _ h => h) (fun _ h => h.elim) ?aF ?aB ?aS ?aL ?_
          (case aR => exact cA (Kd.C_below HR0_0.out HB.out))
          (case aB => exact (hA HB.out))
          (case aF => exact (fun _ _ => trivial))
          (case aO => exact (rA HO383.out))
          (case aS => exact (below_size (hA HB.out)))
          (case aL => have := LMc2.out; omega)
          intro v385 w15 ho hb hg hat
          rw [← Ny384.out] at ho
          have n0_ := mk0 (blk_grown (g := gb379) (o := .cells #[.slice Ap lp.length cp, .slice Aq lq.length cq, .slice Ar lr.length cr] 29 (0, 0)) (bA BK379.out) hg (Kd.R_ne HO383.out BK379.out (by decide)))
          have n1_ := mk0 (blk_grown (g := gb380) (o := .cells #[.slice none 0 0, .slice none 0 0, .slice none 0 0] 29 (0, 0)) (bA BK380.out) hg (Kd.R_ne HO383.out BK380.out (by decide)))
          have n2_ := mk0 (Kd.R_over' (rA HO389.out) (Kd.R_typed (rA HO383.out)) (by decide) hg)
          have n3_ := mk0 (Kd.R_over' (rA HO395.out) (Kd.R_typed (rA HO383.out)) (by decide) hg)
          have n4_ := mk0 (hb)
          have n5_ := mk0 (ho)
          clear BK379
          clear BK380
          clear HO389
          clear HO395
          clear HB
          clear HO383
          have BK379 := n0_
          have BK380 := n1_
          have HO389 := n2_
          have HO395 := n3_
          have HB := n4_
          have HO386 := n5_
          clear n0_ n1_ n2_ n3_ n4_ n5_
          clear ho hb hg hat
          refine hK.out _ _ ⟨(blk_cell BK379.out 0).trans rfl, (blk_cell BK379.out 1).trans rfl, (blk_cell BK379.out 2).trans rfl⟩ (fun hHeld => ?_)
          clear hK K
          refine norm_ (a' := ?_) ?_ ?_
          rotate_left
          ·show Act.put _ (some 6) _ = _
           simp only [Act.put, s1, s2, s3, i64_w]
           rfl
          exact norm_ (by first | (simp only [putAll, Act.put, s1, s2, s3]; done) | (simp only [putAll, Act.put, s1, s2, s3]; rfl)) (hJ0_3_4_8 (v382, v385, v388, v394) _ ⟨hHeld, (rA HO386.out), (rA HO389.out), (rA HO395.out), (bA BK379.out), (bA BK380.out), (hA HB.out)⟩)
        ·skip
         rintro ⟨v382, v385, v394⟩ w13 ⟨hS_, h0_, h1_, h2_, h3_, h4_⟩
         have n0_ : Aside0 (Kd.R k50 50 w13 w.heap.size (fun _ => True) v385 y384) := ⟨h0_⟩
         have n1_ : Aside0 (Kd.R (Kd.int .i64) 3 w13 w.heap.size (fun _ => True) v394 y393) := ⟨h1_⟩
         have n2_ : Aside0 (w13.heap[gb379]? = some (.cells #[.slice Ap lp.length cp, .slice Aq lq.length cq, .slice Ar lr.length cr] 29 (0, 0))) := ⟨h2_⟩
         have n3_ : Aside0 (w13.heap[gb380]? = some (.cells #[.slice none 0 0, .slice none 0 0, .slice none 0 0] 29 (0, 0))) := ⟨h3_⟩
         have n4_ : Aside0 (Below w.heap.size w w13) := ⟨h4_⟩
         clear BK379
         clear BK380
         clear HB
         clear h0_ h1_ h2_ h3_ h4_
         have HO386 := n0_
         have HO395 := n1_
         have BK379 := n2_
         have BK380 := n3_
         have HB := n4_
         clear n0_ n1_ n2_ n3_ n4_
         have hHeld : w13.cell? ⟨gb379, 0, none⟩ = some (.slice Ap lp.length cp) ∧ w13.cell? ⟨gb379, 1, none⟩ = some (.slice Aq lq.length cq) ∧ w13.cell? ⟨gb379, 2, none⟩ = some (.slice Ar lr.length cr) := hS_
         refine norm_ (a' := ?_) ?_ ?_
         rotate_left
         ·simp only [putAll, Act.put, s1, s2, s3]
          rfl
         refine one_ (i := 4) (N := some 7) #[I,I,I,I,I,I,I,O,I,I,I,O,O,O] rfl rfl (one_of HT_.out (by kernel_rfl)) (by decide) (fun K hK => ?_)
         refine Kd.R_lit_step (Kd.int .i64) _ 3 ?hg (N := 7) ?hd (xs := ([] : List Int)) (inner := []) (ok := fun _ => True) (okp := fun _ => True) ?hr ?hp (fun _ hk => hk) trivial (Below.refl _ _) (Nat.le_refl _) (by simp) ?_; (case hd | hg => rfl); (case hr => first | (go_simp; done) | (go_simp; rfl)); (case hp => exact (Reps.none _ _))
         intro v388 w14 ho15 hb hg_ hnew_
         clear hg_ hnew_
         (first | rw [← Ny387.out] at ho15 | (simp only [Int.reduceToNat] at ho15; rw [← Ny387.out] at ho15))
         have n0_ := mk0 (Kd.R_below (rA HO386.out) hb)
         have n1_ := mk0 (Kd.R_elder' (rA HO395.out) (Kd.R_base ho15) hb)
         have n2_ := mk0 (Kd.R_lower (Kd.R_new' ho15 (Kd.R_lt (rA HO395.out))) (below_size (hA HB.out)))
         have n3_ := mk0 (bB BK379.out hb)
         have n4_ := mk0 (bB BK380.out hb)
         have n5_ := mk0 (below_step (hA HB.out) hb)
         clear HO386
         clear HO395
         clear BK379
         clear BK380
         clear HB
         have HO386 := n0_
         have HO395 := n1_
         have HO389 := n2_
         have BK379 := n3_
         have BK380 := n4_
         have HB := n5_
         clear n0_ n1_ n2_ n3_ n4_ n5_
         clear hb ho15
         refine hK.out _ _ ⟨(blk_cell BK379.out 0).trans rfl, (blk_cell BK379.out 1).trans rfl, (blk_cell BK379.out 2).trans rfl⟩ (fun hHeld => ?_)
         clear hK K
         refine norm_ (a' := ?_) ?_ ?_
         rotate_left
         ·show Act.put _ (some 7) _ = _
          simp only [Act.put, s1, s2, s3, i64_w]
          rfl
         exact norm_ (by first | (simp only [putAll, Act.put, s1, s2, s3]; done) | (simp only [putAll, Act.put, s1, s2, s3]; rfl)) (hJ0_3_4_8 (v382, v385, v388, v394) _ ⟨hHeld, (rA HO386.out), (rC (a := by exact Kd.R_mono HO389.out (fun _ hk => hk.2))), (rC (a := by exact Kd.R_mono HO395.out (fun _ hk => hk.2))), (bA BK379.out), (bA BK380.out), (hA HB.out)⟩)
       ·skip
        rintro ⟨v382, v385, v388⟩ w13 ⟨hS_, h0_, h1_, h2_, h3_, h4_⟩
        have n0_ : Aside0 (Kd.R k50 50 w13 w.heap.size (fun _ => True) v385 y384) := ⟨h0_⟩
        have n1_ : Aside0 (Kd.R (Kd.int .i64) 3 w13 w.heap.size (fun _ => True) v388 y387) := ⟨h1_⟩
        have n2_ : Aside0 (w13.heap[gb379]? = some (.cells #[.slice Ap lp.length cp, .slice Aq lq.length cq, .slice Ar lr.length cr] 29 (0, 0))) := ⟨h2_⟩
        have n3_ : Aside0 (w13.heap[gb380]? = some (.cells #[.slice none 0 0, .slice none 0 0, .slice none 0 0] 29 (0, 0))) := ⟨h3_⟩
        have n4_ : Aside0 (Below w.heap.size w w13) := ⟨h4_⟩
        clear BK379
        clear BK380
        clear HB
        clear h0_ h1_ h2_ h3_ h4_
        have HO386 := n0_
        have HO389 := n1_
        have BK379 := n2_
        have BK380 := n3_
        have HB := n4_
        clear n0_ n1_ n2_ n3_ n4_
        have hHeld : w13.cell? ⟨gb379, 0, none⟩ = some (.slice Ap lp.length cp) ∧ w13.cell? ⟨gb379, 1, none⟩ = some (.slice Aq lq.length cq) ∧ w13.cell? ⟨gb379, 2, none⟩ = some (.slice Ar lr.length cr) := hS_
        refine norm_ (a' := ?_) ?_ ?_
        rotate_left
        ·simp only [putAll, Act.put, s1, s2, s3]
         rfl
        refine two_ (i := 7) (j := 8) (Ni := some 10) (Nj := some 11) #[I,I,I,I,I,I,I,I,O,I,I,O,O,O] #[I,I,I,I,I,I,I,O,I,I,I,O,O,O] rfl rfl rfl rfl (two_of HT_.out (by kernel_rfl)) (by decide) (by decide) (fun K hK => ?_) (fun K hK => ?_)
        ·skip
         refine Kd.R_append_rows_step (Kd.int .i64) (w0 := w) w.heap.size (by rfl) (.tmp 7) (.tmp 9) 23 3 (.int .i64 0) 8 rfl Try.underlying23 info3 rfl (by decide) (by omega) v388 y387 lq _ _ _ (fun _ => True) (fun _ => False) rfl rfl ?aO ?aR (fun _ _ h => h) (fun _ h => h.elim) ?aF ?aB ?aS ?aL ?_
         (case aR => exact cA (Kd.C_below HR0_1.out HB.out))
         (case aB => exact (hA HB.out))
         (case aF => exact (fun _ _ => trivial))
         (case aO => exact (rA HO389.out))
         (case aS => exact (below_size (hA HB.out)))
         (case aL => have := LMc3.out; omega)
         intro v391 w14 ho hb hg hat
         rw [← Ny390.out] at ho
         have n0_ := mk0 (blk_grown (g := gb379) (o := .cells #[.slice Ap lp.length cp, .slice Aq lq.length cq, .slice Ar lr.length cr] 29 (0, 0)) (bA BK379.out) hg (Kd.R_ne HO389.out BK379.out (by decide)))
         have n1_ := mk0 (blk_grown (g := gb380) (o := .cells #[.slice none 0 0, .slice none 0 0, .slice none 0 0] 29 (0, 0)) (bA BK380.out) hg (Kd.R_ne HO389.out BK380.out (by decide)))
         have n2_ := mk0 (Kd.R_over' (rA HO386.out) (Kd.R_typed (rA HO389.out)) (by decide) hg)
         have n3_ := mk0 (hb)
         have n4_ := mk0 (ho)
         clear BK379
         clear BK380
         clear HO386
         clear HB
         clear HO389
         have BK379 := n0_
         have BK380 := n1_
         have HO386 := n2_
         have HB := n3_
         have HO392 := n4_
         clear n0_ n1_ n2_ n3_ n4_
         clear ho hb hg hat
         refine hK.out _ _ ⟨(blk_cell BK379.out 0).trans rfl, (blk_cell BK379.out 1).trans rfl, (blk_cell BK379.out 2).trans rfl⟩ (fun hHeld => ?_)
         clear hK K
         refine norm_ (a' := ?_) ?_ ?_
         rotate_left
         ·show Act.put _ (some 10) _ = _
          simp only [Act.put, s1, s2, s3, i64_w]
          rfl
         exact norm_ (by first | (simp only [putAll, Act.put, s1, s2, s3]; done) | (simp only [putAll, Act.put, s1, s2, s3]; rfl)) (hJ0_3_4_7 (v382, v385, v388, v391) _ ⟨hHeld, (rA HO386.out), (rA HO392.out), (bA BK379.out), (bA BK380.out), (hA HB.out)⟩)
        ·skip
         refine Kd.R_lit_step (Kd.int .i64) _ 3 ?hg (N := 11) ?hd (xs := ([] : List Int)) (inner := []) (ok := fun _ => True) (okp := fun _ => True) ?hr ?hp (fun _ hk => hk) trivial (Below.refl _ _) (Nat.le_refl _) (by simp) ?_; (case hd | hg => rfl); (case hr => first | (go_simp; done) | (go_simp; rfl)); (case hp => exact (Reps.none _ _))
         intro v394 w14 ho15 hb hg_ hnew_
         clear hg_ hnew_
         (first | rw [← Ny393.out] at ho15 | (simp only [Int.reduceToNat] at ho15; rw [← Ny393.out] at ho15))
         have n0_ := mk0 (Kd.R_below (rA HO386.out) hb)
         have n1_ := mk0 (Kd.R_elder' (rA HO389.out) (Kd.R_base ho15) hb)
         have n2_ := mk0 (Kd.R_lower (Kd.R_new' ho15 (Kd.R_lt (rA HO389.out))) (below_size (hA HB.out)))
         have n3_ := mk0 (bB BK379.out hb)
         have n4_ := mk0 (bB BK380.out hb)
         have n5_ := mk0 (below_step (hA HB.out) hb)
         clear HO386
         clear HO389
         clear BK379
         clear BK380
         clear HB
         have HO386 := n0_
         have HO389 := n1_
         have HO395 := n2_
         have BK379 := n3_
         have BK380 := n4_
         have HB := n5_
         clear n0_ n1_ n2_ n3_ n4_ n5_
         clear hb ho15
         refine hK.out _ _ ⟨(blk_cell BK379.out 0).trans rfl, (blk_cell BK379.out 1).trans rfl, (blk_cell BK379.out 2).trans rfl⟩ (fun hHeld => ?_)
         clear hK K
         refine norm_ (a' := ?_) ?_ ?_
         rotate_left
         ·show Act.put _ (some 11) _ = _
          simp only [Act.put, s1, s2, s3, i64_w]
          rfl
         exact norm_ (by first | (simp only [putAll, Act.put, s1, s2, s3]; done) | (simp only [putAll, Act.put, s1, s2, s3]; rfl)) (hJ0_3_4_8 (v382, v385, v388, v394) _ ⟨hHeld, (rA HO386.out), (rC (a := by exact Kd.R_mono HO389.out (fun _ hk => hk.2))), (rC (a := by exact Kd.R_mono HO395.out (fun _ hk => hk.2))), (bA BK379.out), (bA BK380.out), (hA HB.out)⟩)
      ·skip
       rintro ⟨v382, v385, v388, v394⟩ w15 ⟨hS_, h0_, h1_, h2_, h3_, h4_, h5_⟩
       have n0_ : Aside0 (Kd.R k50 50 w15 w.heap.size (fun _ => True) v385 y384) := ⟨h0_⟩
       have n1_ : Aside0 (Kd.R (Kd.int .i64) 3 w15 w.heap.size (fun k_ => some k_ ≠ (v394 : Value).ownBlock) v388 y387) := ⟨h1_⟩
       have n2_ : Aside0 (Kd.R (Kd.int .i64) 3 w15 w.heap.size (fun k_ => some k_ ≠ (v388 : Value).ownBlock) v394 y393) := ⟨h2_⟩
       have n3_ : Aside0 (w15.heap[gb379]? = some (.cells #[.slice Ap lp.length cp, .slice Aq lq.length cq, .slice Ar lr.length cr] 29 (0, 0))) := ⟨h3_⟩
       have n4_ : Aside0 (w15.heap[gb380]? = some (.cells #[.slice none 0 0, .slice none 0 0, .slice none 0 0] 29 (0, 0))) := ⟨h4_⟩
       have n5_ : Aside0 (Below w.heap.size w w15) := ⟨h5_⟩
       clear BK379
       clear BK380
       clear HB
       clear h0_ h1_ h2_ h3_ h4_ h5_
       have HO386 := n0_
       have HO389 := n1_
       have HO395 := n2_
       have BK379 := n3_
       have BK380 := n4_
       have HB := n5_
       clear n0_ n1_ n2_ n3_ n4_ n5_
       have hHeld : w15.cell? ⟨gb379, 0, none⟩ = some (.slice Ap lp.length cp) ∧ w15.cell? ⟨gb379, 1, none⟩ = some (.slice Aq lq.length cq) ∧ w15.cell? ⟨gb379, 2, none⟩ = some (.slice Ar lr.length cr) := hS_
       refine norm_ (a' := ?_) ?_ ?_
       rotate_left
       ·simp only [putAll, Act.put, s1, s2, s3]
        rfl
       refine one_ (i := 7) (N := some 10) #[I,I,I,I,I,I,I,I,I,I,I,O,O,O] rfl rfl (one_of HT_.out (by kernel_rfl)) (by decide) (fun K hK => ?_)
       refine Kd.R_append_rows_step (Kd.int .i64) (w0 := w) w.heap.size (by rfl) (.tmp 7) (.tmp 9) 23 3 (.int .i64 0) 8 rfl Try.underlying23 info3 rfl (by decide) (by omega) v388 y387 lq _ _ _ (fun k_ => some k_ ≠ (v394 : Value).ownBlock) (fun _ => False) rfl rfl ?aO ?aR (fun _ _ h => h) (fun _ h => h.elim) ?aF ?aB ?aS ?aL ?_
       (case aR => exact cA (Kd.C_below HR0_1.out HB.out))
       (case aB => exact (hA HB.out))
       (case aF => exact (fun k_ hk => Kd.fresh' (Kd.R_lt (rA HO395.out)) k_ hk))
       (case aO => exact (rA HO389.out))
       (case aS => exact (below_size (hA HB.out)))
       (case aL => have := LMc3.out; omega)
       intro v391 w16 ho hb hg hat
       rw [← Ny390.out] at ho
       have n0_ := mk0 (blk_grown (g := gb379) (o := .cells #[.slice Ap lp.length cp, .slice Aq lq.length cq, .slice Ar lr.length cr] 29 (0, 0)) (bA BK379.out) hg (Kd.R_ne HO389.out BK379.out (by decide)))
       have n1_ := mk0 (blk_grown (g := gb380) (o := .cells #[.slice none 0 0, .slice none 0 0, .slice none 0 0] 29 (0, 0)) (bA BK380.out) hg (Kd.R_ne HO389.out BK380.out (by decide)))
       have n2_ := mk0 (Kd.R_over' (rA HO386.out) (Kd.R_typed (rA HO389.out)) (by decide) hg)
       have n3_ := mk0 (Kd.R_after (ok := (fun _ => True)) (rC (a := by exact Kd.R_mono HO395.out (fun _ hk => ⟨trivial, hk⟩))) hg hat)
       have n4_ := mk0 (hb)
       have n5_ := mk0 (ho)
       clear BK379
       clear BK380
       clear HO386
       clear HO395
       clear HB
       clear HO389
       have BK379 := n0_
       have BK380 := n1_
       have HO386 := n2_
       have HO395 := n3_
       have HB := n4_
       have HO392 := n5_
       clear n0_ n1_ n2_ n3_ n4_ n5_
       clear ho hb hg hat
       refine hK.out _ _ ⟨(blk_cell BK379.out 0).trans rfl, (blk_cell BK379.out 1).trans rfl, (blk_cell BK379.out 2).trans rfl⟩ (fun hHeld => ?_)
       clear hK K
       refine norm_ (a' := ?_) ?_ ?_
       rotate_left
       ·show Act.put _ (some 10) _ = _
        simp only [Act.put, s1, s2, s3, i64_w]
        rfl
       exact norm_ (by first | (simp only [putAll, Act.put, s1, s2, s3]; done) | (simp only [putAll, Act.put, s1, s2, s3]; rfl)) (hJ0_3_4_7_8 (v382, v385, v388, v391, v394) _ ⟨hHeld, (rA HO386.out), (rA HO392.out), (rC (a := by exact Kd.R_mono HO395.out (fun _ hk => hk.2))), (bA BK379.out), (bA BK380.out), (hA HB.out)⟩)
     ·skip
      rintro ⟨v382, v385, v388, v391⟩ w14 ⟨hS_, h0_, h1_, h2_, h3_, h4_⟩
      have n0_ : Aside0 (Kd.R k50 50 w14 w.heap.size (fun _ => True) v385 y384) := ⟨h0_⟩
      have n1_ : Aside0 (Kd.R (Kd.int .i64) 3 w14 w.heap.size (fun _ => True) v391 y390) := ⟨h1_⟩
      have n2_ : Aside0 (w14.heap[gb379]? = some (.cells #[.slice Ap lp.length cp, .slice Aq lq.length cq, .slice Ar lr.length cr] 29 (0, 0))) := ⟨h2_⟩
      have n3_ : Aside0 (w14.heap[gb380]? = some (.cells #[.slice none 0 0, .slice none 0 0, .slice none 0 0] 29 (0, 0))) := ⟨h3_⟩
      have n4_ : Aside0 (Below w.heap.size w w14) := ⟨h4_⟩
      clear BK379
      clear BK380
      clear HB
      clear h0_ h1_ h2_ h3_ h4_
      have HO386 := n0_
      have HO392 := n1_
      have BK379 := n2_
      have BK380 := n3_
      have HB := n4_
      clear n0_ n1_ n2_ n3_ n4_
      have hHeld : w14.cell? ⟨gb379, 0, none⟩ = some (.slice Ap lp.length cp) ∧ w14.cell? ⟨gb379, 1, none⟩ = some (.slice Aq lq.length cq) ∧ w14.cell? ⟨gb379, 2, none⟩ = some (.slice Ar lr.length cr) := hS_
      refine norm_ (a' := ?_) ?_ ?_
      rotate_left
      ·simp only [putAll, Act.put, s1, s2, s3]
       rfl
      refine one_ (i := 8) (N := some 11) #[I,I,I,I,I,I,I,I,I,I,I,O,O,O] rfl rfl (one_of HT_.out (by kernel_rfl)) (by decide) (fun K hK => ?_)
      refine Kd.R_lit_step (Kd.int .i64) _ 3 ?hg (N := 11) ?hd (xs := ([] : List Int)) (inner := []) (ok := fun _ => True) (okp := fun _ => True) ?hr ?hp (fun _ hk => hk) trivial (Below.refl _ _) (Nat.le_refl _) (by simp) ?_; (case hd | hg => rfl); (case hr => first | (go_simp; done) | (go_simp; rfl)); (case hp => exact (Reps.none _ _))
      intro v394 w15 ho16 hb hg_ hnew_
      clear hg_ hnew_
      (first | rw [← Ny393.out] at ho16 | (simp only [Int.reduceToNat] at ho16; rw [← Ny393.out] at ho16))
      have n0_ := mk0 (Kd.R_below (rA HO386.out) hb)
      have n1_ := mk0 (Kd.R_elder' (rA HO392.out) (Kd.R_base ho16) hb)
      have n2_ := mk0 (Kd.R_lower (Kd.R_new' ho16 (Kd.R_lt (rA HO392.out))) (below_size (hA HB.out)))
      have n3_ := mk0 (bB BK379.out hb)
      have n4_ := mk0 (bB BK380.out hb)
      have n5_ := mk0 (below_step (hA HB.out) hb)
      clear HO386
      clear HO392
      clear BK379
      clear BK380
      clear HB
      have HO386 := n0_
      have HO392 := n1_
      have HO395 := n2_
      have BK379 := n3_
      have BK380 := n4_
      have HB := n5_
      clear n0_ n1_ n2_ n3_ n4_ n5_
      clear hb ho16
      refine hK.out _ _ ⟨(blk_cell BK379.out 0).trans rfl, (blk_cell BK379.out 1).trans rfl, (blk_cell BK379.out 2).trans rfl⟩ (fun hHeld => ?_)
      clear hK K
      refine norm_ (a' := ?_) ?_ ?_
      rotate_left
      ·show Act.put _ (some 11) _ = _
       simp only [Act.put, s1, s2, s3, i64_w]
       rfl
      exact norm_ (by first | (simp only [putAll, Act.put, s1, s2, s3]; done) | (simp only [putAll, Act.put, s1, s2, s3]; rfl)) (hJ0_3_4_7_8 (v382, v385, v388, v391, v394) _ ⟨hHeld, (rA HO386.out), (rC (a := by exact Kd.R_mono HO392.out (fun _ hk => hk.2))), (rC (a := by exact Kd.R_mono HO395.out (fun _ hk => hk.2))), (bA BK379.out), (bA BK380.out), (hA HB.out)⟩)
    rintro ⟨v382, v385, v388, v391, v394⟩ w16 ⟨hS_, h0_, h1_, h2_, h3_, h4_, h5_⟩
    have n0_ : Aside0 (Kd.R k50 50 w16 w.heap.size (fun _ => True) v385 y384) := ⟨h0_⟩
    have n1_ : Aside0 (Kd.R (Kd.int .i64) 3 w16 w.heap.size (fun k_ => some k_ ≠ (v394 : Value).ownBlock) v391 y390) := ⟨h1_⟩
    have n2_ : Aside0 (Kd.R (Kd.int .i64) 3 w16 w.heap.size (fun k_ => some k_ ≠ (v391 : Value).ownBlock) v394 y393) := ⟨h2_⟩
    have n3_ : Aside0 (w16.heap[gb379]? = some (.cells #[.slice Ap lp.length cp, .slice Aq lq.length cq, .slice Ar lr.length cr] 29 (0, 0))) := ⟨h3_⟩
    have n4_ : Aside0 (w16.heap[gb380]? = some (.cells #[.slice none 0 0, .slice none 0 0, .slice none 0 0] 29 (0, 0))) := ⟨h4_⟩
    have n5_ : Aside0 (Below w.heap.size w w16) := ⟨h5_⟩
    clear BK379
    clear BK380
    clear HB
    clear h0_ h1_ h2_ h3_ h4_ h5_
    have HO386 := n0_
    have HO392 := n1_
    have HO395 := n2_
    have BK379 := n3_
    have BK380 := n4_
    have HB := n5_
    clear n0_ n1_ n2_ n3_ n4_ n5_
    have hHeld : w16.cell? ⟨gb379, 0, none⟩ = some (.slice Ap lp.length cp) ∧ w16.cell? ⟨gb379, 1, none⟩ = some (.slice Aq lq.length cq) ∧ w16.cell? ⟨gb379, 2, none⟩ = some (.slice Ar lr.length cr) := hS_
    refine norm_ (a' := ?_) ?_ ?_
    rotate_left
    ·simp only [putAll, Act.put, s1, s2, s3]
     rfl
    refine one_ (i := 11) (N := some 14) #[I,I,I,I,I,I,I,I,I,I,I,I,O,O] rfl rfl (one_of HT_.out (by kernel_rfl)) (by decide) (fun K hK => ?_)
    refine Kd.R_append_rows_step (Kd.int .i64) (w0 := w) w.heap.size (by rfl) (.tmp 11) (.tmp 13) 23 3 (.int .i64 0) 8 rfl Try.underlying23 info3 rfl (by decide) (by omega) v394 y393 lr _ _ _ (fun k_ => some k_ ≠ (v391 : Value).ownBlock) (fun _ => False) rfl rfl ?aO ?aR (fun _ _ h => h) (fun _ h => h.elim) ?aF ?aB ?aS ?aL ?_
    (case aR => exact cA (Kd.C_below HR0_2.out HB.out))
    (case aB => exact (hA HB.out))
    (case aF => exact (fun k_ hk => Kd.fresh' (Kd.R_lt (rA HO392.out)) k_ hk))
    (case aO => exact (rA HO395.out))
    (case aS => exact (below_size (hA HB.out)))
    (case aL => have := LMc4.out; omega)
    intro v397 w17 ho hb hg hat
    rw [← Ny396.out] at ho
    have n0_ := mk0 (blk_grown (g := gb379) (o := .cells #[.slice Ap lp.length cp, .slice Aq lq.length cq, .slice Ar lr.length cr] 29 (0, 0)) (bA BK379.out) hg (Kd.R_ne HO395.out BK379.out (by decide)))
    have n1_ := mk0 (blk_grown (g := gb380) (o := .cells #[.slice none 0 0, .slice none 0 0, .slice none 0 0] 29 (0, 0)) (bA BK380.out) hg (Kd.R_ne HO395.out BK380.out (by decide)))
    have n2_ := mk0 (Kd.R_over' (rA HO386.out) (Kd.R_typed (rA HO395.out)) (by decide) hg)
    have n3_ := mk0 (Kd.R_after (ok := (fun _ => True)) (rC (a := by exact Kd.R_mono HO392.out (fun _ hk => ⟨trivial, hk⟩))) hg hat)
    have n4_ := mk0 (hb)
    have n5_ := mk0 (ho)
    clear BK379
    clear BK380
    clear HO386
    clear HO392
    clear HB
    clear HO395
    have BK379 := n0_
    have BK380 := n1_
    have HO386 := n2_
    have HO392 := n3_
    have HB := n4_
    have HO398 := n5_
    clear n0_ n1_ n2_ n3_ n4_ n5_
    clear ho hb hg hat
    obtain ⟨Ao18, co18, eo18⟩ := Kd.R_slice HO398.out
    (first | subst eo18 | (injection eo18 with f1_ f2_ f3_; have f4_ := f1_.symm; have f5_ := f3_.symm; clear f1_ f2_ f3_; subst f4_; subst f5_))
    obtain ⟨Ao19, co19, eo19⟩ := Kd.R_slice HO392.out
    (first | subst eo19 | (injection eo19 with f1_ f2_ f3_; have f4_ := f1_.symm; have f5_ := f3_.symm; clear f1_ f2_ f3_; subst f4_; subst f5_))
    obtain ⟨Ao20, co20, eo20⟩ := Kd.R_slice HO386.out
    (first | subst eo20 | (injection eo20 with f1_ f2_ f3_; have f4_ := f1_.symm; have f5_ := f3_.symm; clear f1_ f2_ f3_; subst f4_; subst f5_))
    refine hK.out _ _ ⟨(blk_cell BK379.out 0).trans rfl, (blk_cell BK379.out 1).trans rfl, (blk_cell BK379.out 2).trans rfl⟩ (fun hHeld => ?_)
    clear hK K
    refine norm_ (a' := ?_) ?_ ?_
    rotate_left
    ·show Act.put _ (some 14) _ = _
     simp only [Act.put, s1, s2, s3, i64_w]
     rfl
    refine pure_ (i := 12) (N := some 15) (v := ?_) (a' := ?_) #[I,I,I,I,I,I,I,I,I,I,I,I,I,O] rfl rfl (any_of HT_.out (by kernel_rfl)) (fun _ _ _ h => h) (Or.inl ⟨by rfl, ?_⟩) ?_ ?_
    rotate_left
    ·intro w'
     go_simp
     with_reducible rfl
    rotate_left
    ·simp only [Act.put, s1, s2, s3, i64_w]
     rfl
    refine one_ (i := 13) (N := none) #[I,I,I,I,I,I,I,I,I,I,I,I,I,I] rfl rfl (one_of HT_.out (by kernel_rfl)) (by decide) (fun K hK => ?_)
    have hs21 : w17.cell? ⟨gb380, 0, none⟩ = some (.slice none 0 0) := (blk_cell BK380.out 0).trans rfl
    have hfs21 := blk_frozen BK380.out 0
    have hns21_0 := NB379_380.out
    have hms21_0 := NB380_379.out
    have hs22 : w17.cell? ⟨gb380, 1, none⟩ = some (.slice none 0 0) := (blk_cell BK380.out 1).trans rfl
    have hfs22 := blk_frozen BK380.out 1
    have hns22_0 := NB379_380.out
    have hms22_0 := NB380_379.out
    have hs23 : w17.cell? ⟨gb380, 2, none⟩ = some (.slice none 0 0) := (blk_cell BK380.out 2).trans rfl
    have hfs23 := blk_frozen BK380.out 2
    have hns23_0 := NB379_380.out
    have hms23_0 := NB380_379.out
    refine skip_ (w1 := ?_) (by rfl) rfl ?_ ?_
    rotate_left
    ·go_simp
     rfl
    refine hK.out _ _ ⟨((cell_far (p := ⟨gb380, _, none⟩) NB379_380.out _).trans (((cell_far (p := ⟨gb380, _, none⟩) NB379_380.out _).trans (((cell_far (p := ⟨gb380, _, none⟩) NB379_380.out _).trans (hHeld.1)))))), ((cell_far (p := ⟨gb380, _, none⟩) NB379_380.out _).trans (((cell_far (p := ⟨gb380, _, none⟩) NB379_380.out _).trans (((cell_far (p := ⟨gb380, _, none⟩) NB379_380.out _).trans (hHeld.2.1)))))), ((cell_far (p := ⟨gb380, _, none⟩) NB379_380.out _).trans (((cell_far (p := ⟨gb380, _, none⟩) NB379_380.out _).trans (((cell_far (p := ⟨gb380, _, none⟩) NB379_380.out _).trans (hHeld.2.2))))))⟩ (fun hHeld => ?_)
    clear hK K
    refine done_ (done_of HT_.out (by kernel_rfl)) ?_
    try go_wp2
    refine bodyPost_ret (results_cell_row rfl _ _ gb380 29 #[.slice Ao20 y384.length co20, .slice Ao19 y390.length co19, .slice Ao18 y396.length co18] (0, 0) _ rfl (by refine bC (a := ?_); refine blk_put (cs := #[.slice Ao20 y384.length co20, .slice Ao19 y390.length co19, .slice none 0 0]) ?_ 2 _ rfl; refine bC (a := ?_); refine blk_put (cs := #[.slice Ao20 y384.length co20, .slice none 0 0, .slice none 0 0]) ?_ 1 _ rfl; refine bC (a := ?_); refine blk_put (cs := #[.slice none 0 0, .slice none 0 0, .slice none 0 0]) ?_ 0 _ rfl; refine bC (a := ?_); exact BK380.out) Try.underlying29 rfl (by kernel_rfl)) rfl ?_
    exact ⟨_, _, _, er, by refine rC (a := ?_); exact Kd.R_mono (Kd.R_far (p := ⟨gb380, 2, none⟩) (Kd.R_far (p := ⟨gb380, 1, none⟩) (Kd.R_far (p := ⟨gb380, 0, none⟩) (Kd.R_types HO386.out BK380.out (by decide)) (fun _ hk => hk.2) (.slice Ao20 y384.length co20)) (fun _ hk => hk.2) (.slice Ao19 y390.length co19)) (fun _ hk => hk.2) (.slice Ao18 y396.length co18)) (fun _ hk => trivial), by refine rC (a := ?_); exact Kd.R_mono (Kd.R_far (p := ⟨gb380, 2, none⟩) (Kd.R_far (p := ⟨gb380, 1, none⟩) (Kd.R_far (p := ⟨gb380, 0, none⟩) (Kd.R_types HO392.out BK380.out (by decide)) (fun _ hk => hk.2) (.slice Ao20 y384.length co20)) (fun _ hk => hk.2) (.slice Ao19 y390.length co19)) (fun _ hk => hk.2) (.slice Ao18 y396.length co18)) (fun _ hk => hk.1.2), by refine rC (a := ?_); exact Kd.R_mono (Kd.R_far (p := ⟨gb380, 2, none⟩) (Kd.R_far (p := ⟨gb380, 1, none⟩) (Kd.R_far (p := ⟨gb380, 0, none⟩) (Kd.R_types HO398.out BK380.out (by decide)) (fun _ hk => hk.2) (.slice Ao20 y384.length co20)) (fun _ hk => hk.2) (.slice Ao19 y390.length co19)) (fun _ hk => hk.2) (.slice Ao18 y396.length co18)) (fun _ hk => hk.1), hA HB.out⟩
   ·rw [if_neg c4] at H
    exact absurd H (by simp)
  ·rw [if_neg c3] at H
   exact absurd H (by simp)
 ·rw [if_neg c2] at H
  exact absurd H (by simp)
end Go.Proofs.Ytngnkfpciloamaa.MFnBooked
