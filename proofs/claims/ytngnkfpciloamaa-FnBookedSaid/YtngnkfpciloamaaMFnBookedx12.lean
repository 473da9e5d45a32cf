/- What the code of the law FnBooked answers. -/
import Derived.Test.YtngnkfpciloamaaShortFnBooked
import Derived.Test.YtngnkfpciloamaaMFnBookedx0
import Derived.Test.YtngnkfpciloamaaMFnBookedx4
namespace Go.Proofs.Ytngnkfpciloamaa.MFnBooked
open Go.RowKit Go.Proofs.YtngnkfpciloamaaW.PrintWords Go.Proofs.YtngnkfpciloamaaW.PrintLast Go.Proofs.YtngnkfpciloamaaW.PrintMore
attribute [local go_sem] max2_int min2_int max_two min_two max_three min_three max_four min_four
set_option linter.unusedVariables false
set_option linter.unusedSimpArgs false
mutual
def spec_l18Write.l0 : Nat → Int → Int → Int → List (S50) → List Int → Option ((List (S50)) × List Int × List Int)
 | 0, _, _, _, _, _ => none
 | k + 1, x1, x2, x8, x128000, x128001 => if x8 < x1 then ((spec_l18First.f k x128000 x128001 ([] : List Int) x8 false).bind fun t128 => (if x128001.length < 17592186044416 then (spec_l18Write.l0 k x1 x2 (wrap64 (x8 + 1)) x128000 (x128001 ++ [t128])) else (none))) else (spec_l18Write.l1 k x2 0 x128000 x128001 ([] : List Int))
def spec_l18Write.l1 : Nat → Int → Int → List (S50) → List Int → List Int → Option ((List (S50)) × List Int × List Int)
 | 0, _, _, _, _, _ => none
 | k + 1, x2, x9, x128000, x128001, x128002 => if x9 < x2 then ((spec_l18First.f k x128000 x128001 x128002 x9 true).bind fun t132 => (if x128002.length < 17592186044416 then (spec_l18Write.l1 k x2 (wrap64 (x9 + 1)) x128000 x128001 (x128002 ++ [t132])) else (none))) else (some (x128000, x128001, x128002))
end
def spec_l18Write.f (k : Nat) (l0 : List (S50)) (a1 : Int) (a2 : Int) : Option ((List (S50)) × List Int × List Int) := (some (([] : List (S50)) : List (S50))).bind fun y121 => (if y121.length + l0.length < 5864062014805 then (spec_l18Write.l0 k a1 a2 0 (y121 ++ l0) ([] : List Int)) else (none))
theorem spec_l18Write.mono_l : ∀ k, (∀ y0 y1 y2 y3 y4, LeO (spec_l18Write.l0 k y0 y1 y2 y3 y4) (spec_l18Write.l0 (k + 1) y0 y1 y2 y3 y4)) ∧ (∀ y0 y1 y2 y3 y4, LeO (spec_l18Write.l1 k y0 y1 y2 y3 y4) (spec_l18Write.l1 (k + 1) y0 y1 y2 y3 y4))
 | 0 => ⟨fun _ _ _ _ _ r h => by simp [spec_l18Write.l0] at h, fun _ _ _ _ _ r h => by simp [spec_l18Write.l1] at h⟩
 | k + 1 => by
  obtain ⟨ih0, ih1⟩ := spec_l18Write.mono_l k
  refine ⟨?_, ?_⟩
  ·intro y0 y1 y2 y3 y4
   unfold spec_l18Write.l0
   repeat' first
   | (with_reducible exact ih0 _ _ _ _ _)
   | (with_reducible exact ih1 _ _ _ _ _)
   | (with_reducible exact spec_l18First.mono _ _ _ _ _ _)
   | (with_reducible exact LeO.refl _)
   | (with_reducible exact LeO.none _)
   | (with_reducible refine LeO.ite ?_ ?_)
   | (with_reducible refine LeO.bind ?_ (fun _ => ?_))
   | exact ih0 _ _ _ _ _
   | exact ih1 _ _ _ _ _
   | exact spec_l18First.mono _ _ _ _ _ _
   | exact LeO.none _
   | refine LeO.ite ?_ ?_
   | refine LeO.bind ?_ (fun _ => ?_)
  ·intro y0 y1 y2 y3 y4
   unfold spec_l18Write.l1
   repeat' first
   | (with_reducible exact ih0 _ _ _ _ _)
   | (with_reducible exact ih1 _ _ _ _ _)
   | (with_reducible exact spec_l18First.mono _ _ _ _ _ _)
   | (with_reducible exact LeO.refl _)
   | (with_reducible exact LeO.none _)
   | (with_reducible refine LeO.ite ?_ ?_)
   | (with_reducible refine LeO.bind ?_ (fun _ => ?_))
   | exact ih0 _ _ _ _ _
   | exact ih1 _ _ _ _ _
   | exact spec_l18First.mono _ _ _ _ _ _
   | exact LeO.none _
   | refine LeO.ite ?_ ?_
   | refine LeO.bind ?_ (fun _ => ?_)
theorem spec_l18Write.mono : ∀ a0 a1 a2 k, LeO (spec_l18Write.f k a0 a1 a2) (spec_l18Write.f (k + 1) a0 a1 a2) := by
 intro a0 a1 a2 k
 obtain ⟨ih0, ih1⟩ := spec_l18Write.mono_l k
 unfold spec_l18Write.f
 repeat' first
   | (with_reducible exact ih0 _ _ _ _ _)
   | (with_reducible exact ih1 _ _ _ _ _)
   | (with_reducible exact spec_l18First.mono _ _ _ _ _ _)
   | (with_reducible exact LeO.refl _)
   | (with_reducible exact LeO.none _)
   | (with_reducible refine LeO.ite ?_ ?_)
   | (with_reducible refine LeO.bind ?_ (fun _ => ?_))
   | exact ih0 _ _ _ _ _
   | exact ih1 _ _ _ _ _
   | exact spec_l18First.mono _ _ _ _ _ _
   | exact LeO.none _
   | refine LeO.ite ?_ ?_
   | refine LeO.bind ?_ (fun _ => ?_)
def spec_l18Write.T5 : Bool × List (List Nat × List Nat) := (true, [([], []), ([0], [0]), ([], []), ([], []), ([2, 3], [2, 3]), ([4], [4]), ([1, 5, 4], [1, 5]), ([0, 1, 2, 3, 4, 5, 6], []), ([7, 6, 6, 0, 1, 2, 3, 4, 5, 6], [6, 7])])
def spec_l18Write.B5 : List Nat := [0, 1, 0, 0, 12, 28, 63, 127, 255]
theorem spec_l18Write.tab5 : rtab .any (opsOf Try.f37 5) = spec_l18Write.T5 := by kernel_rfl
theorem spec_l18Write.bits5 : waitsOk spec_l18Write.T5.2 spec_l18Write.B5 = true := by kernel_rfl
def spec_l18Write.T9 : Bool × List (List Nat × List Nat) := (true, [([], []), ([0], [0]), ([], []), ([], []), ([2, 3], [2, 3]), ([4], [4]), ([1, 5, 4], [1, 5]), ([0, 1, 2, 3, 4, 5, 6], []), ([7, 6, 6, 0, 1, 2, 3, 4, 5, 6], [6, 7])])
def spec_l18Write.B9 : List Nat := [0, 1, 0, 0, 12, 28, 63, 127, 255]
theorem spec_l18Write.tab9 : rtab .any (opsOf Try.f37 9) = spec_l18Write.T9 := by kernel_rfl
theorem spec_l18Write.bits9 : waitsOk spec_l18Write.T9.2 spec_l18Write.B9 = true := by kernel_rfl
set_option maxHeartbeats 8000000 in
set_option maxRecDepth 100000 in
theorem spec_l18Write.calls (k : Nat) (A0 : Option Addr) (c0 : Nat) (l0 : List (S50)) (a1 : Int) (a2 : Int) (r1 : List (S50)) (r2 : List Int) (r3 : List Int) (w : World) (base_ : Nat) (ok_ : Nat → Prop) (hown : Kd.R k50 50 w base_ ok_ (.slice A0 l0.length c0) l0) (hr0 : Kd.C k50 w A0 l0.length l0) (hc0 : l0.length ≤ c0) (h : spec_l18Write.f k l0 a1 a2 = some (r1, r2, r3)) :
  Calls Try.prog 37 #[.slice A0 l0.length c0, .int .i64 a1, .int .i64 a2] w fun e w' => ∃ v0_ v1_ v2_ : Value, e = .returned (.agg #[v0_, v1_, v2_]) ∧ Kd.R k50 50 w' base_ (fun _ => True) v0_ r1 ∧ Kd.R (Kd.int .i64) 3 w' w.heap.size (fun k_ => some k_ ≠ (v2_ : Value).ownBlock) v1_ r2 ∧ Kd.R (Kd.int .i64) 3 w' w.heap.size (fun k_ => some k_ ≠ (v1_ : Value).ownBlock) v2_ r3 ∧ Below w.heap.size w w' := by
 have hu29 := Try.underlying29
 have HR0 := mk0 hr0
 have HC0 := mk0 hc0
 clear hr0 hc0
 have HB := mk0 (Below.refl w.heap.size w)
 have H : ((some (([] : List (S50)) : List (S50))).bind fun y121 => (if y121.length + l0.length < 5864062014805 then (spec_l18Write.l0 k a1 a2 0 (y121 ++ l0) ([] : List Int)) else (none))) = some (r1, r2, r3) := h
 clear h
 obtain ⟨y121, hy121⟩ : ∃ y_ : List (S50), y_ = (([] : List (S50))) := ⟨_, rfl⟩
 replace H : (if y121.length + l0.length < 5864062014805 then (spec_l18Write.l0 k a1 a2 0 (y121 ++ l0) ([] : List Int)) else (none)) = some (r1, r2, r3) := by first | (rw [hy121]; with_reducible exact H) | (have H2_ := (Option.bind_some _ _).symm.trans H; rw [hy121]; with_reducible exact H2_) | (have H2_ := (Option.bind_some _ _).symm.trans H; with_reducible exact H2_) | with_reducible exact H | (rw [hy121]; exact H) | exact H
 have Ny121 := mk0 hy121
 clear hy121
 by_cases c4 : y121.length + l0.length < 5864062014805
 ·rw [if_pos c4] at H
  have LMc4 := mk0 c4
  clear c4
  obtain ⟨y124, hy124⟩ : ∃ y_ : List (S50), y_ = (y121 ++ l0) := ⟨_, rfl⟩
  replace H : (spec_l18Write.l0 k a1 a2 0 y124 ([] : List Int)) = some (r1, r2, r3) := by first | (rw [hy124]; with_reducible exact H) | (have H2_ := (Option.bind_some _ _).symm.trans H; rw [hy124]; with_reducible exact H2_) | (have H2_ := (Option.bind_some _ _).symm.trans H; with_reducible exact H2_) | with_reducible exact H | (rw [hy124]; exact H) | exact H
  have Ny124 := mk0 hy124
  clear hy124
  obtain rfl : y124 = l0 := by rw [Ny124.out, Ny121.out]; rfl
  have H' := mk0 H
  clear H
  go_enter Try.func37, Try.ntmps37
  go_wp2_with (first | ((with_reducible refine gate_dst (N := 6) rfl ?_); refine box_event ?hg (N := 6) ?hd (cs := #[.slice none 0 0, .slice none 0 0, .slice none 0 0]) (t := 29) ?hr ?_; (case hd | hg => rfl); (case hr => first | (go_simp; done) | (go_simp; rfl)); intro gb120 hg w5 hbox hb; have n0_ := mk0 (below_step (hA HB.out) hb); have n1_ := mk0 (hbox); have n2_ := mk0 ((by rw [hg]; exact (below_size (hA HB.out)) : w.heap.size ≤ gb120)); have n3_ := mk0 ((by rw [hg]; exact (below_size (hA HB.out)) : w.heap.size ≤ gb120)); clear HB; have HB := n0_; have BK120 := n1_; have GW120 := n2_; have GE120 := n3_; clear n0_ n1_ n2_ n3_; have HO126 := mk0 (Kd.R_below (Kd.R_mono (ok' := fun _ => True) hown (fun _ _ => trivial)) hb); clear hb hbox hg) | ((with_reducible refine gate_dst (N := 7) rfl ?_); refine box_event ?hg (N := 7) ?hd (cs := #[.slice none 0 0, .slice none 0 0, .slice none 0 0]) (t := 29) ?hr ?_; (case hd | hg => rfl); (case hr => first | (go_simp; done) | (go_simp; rfl)); intro gb127 hg w10 hbox hb; have n0_ := mk0 (Kd.R_below (rA HO126.out) hb); have n1_ := mk0 (bB BK120.out hb); have n2_ := mk0 (below_step (hA HB.out) hb); have n3_ := mk0 (hbox); have n4_ := mk0 ((by rw [hg]; exact (below_size (hA HB.out)) : w.heap.size ≤ gb127)); have n5_ := mk0 ((by rw [hg]; exact (below_size (hA HB.out)) : w.heap.size ≤ gb127)); have n6_ := mk0 ((by rw [hg]; exact Nat.ne_of_lt (blk_lt (g := gb120) (o := .cells #[.slice none 0 0, .slice none 0 0, .slice none 0 0] 29 (0, 0)) (bA BK120.out)) : gb120 ≠ gb127)); have n7_ := mk0 ((by rw [hg]; exact Nat.ne_of_gt (blk_lt (g := gb120) (o := .cells #[.slice none 0 0, .slice none 0 0, .slice none 0 0] 29 (0, 0)) (bA BK120.out)) : gb127 ≠ gb120)); clear HO126; clear BK120; clear HB; have HO126 := n0_; have BK120 := n1_; have HB := n2_; have BK127 := n3_; have GW127 := n4_; have GE127 := n5_; have NB120_127 := n6_; have NB127_120 := n7_; clear n0_ n1_ n2_ n3_ n4_ n5_ n6_ n7_; clear hb hbox hg; have hnb11 := NB127_120.out; have hnc11 := NB120_127.out; have hcz12_0 : w10.cell? ⟨gb127, 0, none⟩ = some (.slice none 0 0) := (blk_cell BK127.out 0).trans rfl; have hcz12_1 : w10.cell? ⟨gb127, 1, none⟩ = some (.slice none 0 0) := (blk_cell BK127.out 1).trans rfl; have hcz12_2 : w10.cell? ⟨gb127, 2, none⟩ = some (.slice none 0 0) := (blk_cell BK127.out 2).trans rfl; have hfz12_0 := blk_frozen BK127.out 0; have hfz12_1 := blk_frozen BK127.out 1; have hfz12_2 := blk_frozen BK127.out 2))
  go_loopg [8] k (fun kq v8 w' => ∃ (x8_1 : Int) (x128001_1 : List Int) (u128001 : Value), v8 = .int .i64 x8_1 ∧ Aside0 (spec_l18Write.l0 kq a1 a2 x8_1 y124 x128001_1 = some (r1, r2, r3)) ∧ Aside0 (kq ≤ k) ∧ Aside0 (Kd.R k50 50 w' base_ (fun _ => True) (.slice A0 y124.length c0) y124) ∧ Aside0 (Kd.R (Kd.int .i64) 3 w' w.heap.size (fun _ => True) u128001 x128001_1) ∧ Aside0 (w'.heap[gb120]? = some (.cells #[(.slice none 0 0), (.slice none 0 0), (.slice none 0 0)] 29 (0, 0))) ∧ Aside0 (w'.heap[gb127]? = some (.cells #[(.slice A0 y124.length c0), u128001, (.slice none 0 0)] 29 (0, 0))) ∧ Aside0 (Below w.heap.size w w'))
  case atStart => exact ⟨(0), (([] : List Int)), (.slice none 0 0), rs, H', ⟨Nat.le_refl _⟩, ⟨by refine rC (a := ?_); exact Kd.R_mono (Kd.R_far (p := ⟨gb127, 2, none⟩) (Kd.R_far (p := ⟨gb127, 1, none⟩) (Kd.R_far (p := ⟨gb127, 0, none⟩) (Kd.R_types HO126.out BK127.out (by decide)) (fun _ hk => hk.2) (.slice A0 y124.length c0)) (fun _ hk => hk.2) (.slice none 0 0)) (fun _ hk => hk.2) (.slice none 0 0)) (fun _ hk => trivial)⟩, ⟨by first | exact Kd.R_nil _ _ _ _ _ | exact Kd.N_nil _ _ _ _ _ | exact Kd.V_nil _ _ _ _ _ | exact Kd.Q_nil _ _ _ _ _ | exact Kd.S_nil _ _ _ _ _⟩, ⟨by refine bC (a := ?_); refine blk_far ?_ NB120_127.out _; refine bC (a := ?_); refine blk_far ?_ NB120_127.out _; refine bC (a := ?_); refine blk_far ?_ NB120_127.out _; refine bC (a := ?_); exact BK120.out⟩, ⟨by refine bC (a := ?_); refine blk_put (cs := #[.slice A0 y124.length c0, .slice none 0 0, .slice none 0 0]) ?_ 2 _ rfl; refine bC (a := ?_); refine blk_put (cs := #[.slice A0 y124.length c0, .slice none 0 0, .slice none 0 0]) ?_ 1 _ rfl; refine bC (a := ?_); refine blk_put (cs := #[.slice none 0 0, .slice none 0 0, .slice none 0 0]) ?_ 0 _ rfl; refine bC (a := ?_); exact BK127.out⟩, ⟨hA HB.out⟩⟩
  case round =>
   clear H'
   (try clear c1); (try clear p2); (try clear c3); (try clear c4); (try clear c11); (try clear hcz12_0); (try clear hcz12_1); (try clear hcz12_2); (try clear hfz12_0); (try clear hfz12_1); (try clear hfz12_2)
   obtain ⟨x8_1, x128001_1, u128001, rfl, HA, HK1, HO_128000, HO_128001, BK120, BK127, HB⟩ := hrel
   cases gk with
   | zero => exact absurd HA.out (by simp [spec_l18Write.l0])
   | succ k1 =>
    have H := HA.out
    clear HA
    simp only [spec_l18Write.l0] at H
    by_cases c13 : x8_1 < a1
    ·rw [if_pos c13] at H
     have c13b0 : decide (x8_1 < a1) = true := decide_eq_true c13
     clear c13
     replace H := Option.bind_eq_some_iff.mp H
     obtain ⟨t128, A140, H⟩ := H
     replace H : (if x128001_1.length < 17592186044416 then (spec_l18Write.l0 k1 a1 a2 (wrap64 (x8_1 + 1)) y124 (x128001_1 ++ [t128])) else (none)) = some (r1, r2, r3) := H
     have A14 := mk0 A140
     clear A140
     by_cases c15 : x128001_1.length < 17592186044416
     ·rw [if_pos c15] at H
      have LMc15 := mk0 c15
      clear c15
      obtain ⟨y129, hy129⟩ : ∃ y_ : List Int, y_ = (x128001_1 ++ [t128]) := ⟨_, rfl⟩
      replace H : (spec_l18Write.l0 k1 a1 a2 (wrap64 (x8_1 + 1)) y124 y129) = some (r1, r2, r3) := by first | (rw [hy129]; with_reducible exact H) | (have H2_ := (Option.bind_some _ _).symm.trans H; rw [hy129]; with_reducible exact H2_) | (have H2_ := (Option.bind_some _ _).symm.trans H; with_reducible exact H2_) | with_reducible exact H | (rw [hy129]; exact H) | exact H
      have Ny129 := mk0 hy129
      clear hy129
      have H' := mk0 H
      clear H
      try go_wp2
      have n0_ := mk0 (Kd.R_drew HO_128000.out)
      have n1_ := mk0 (Kd.R_drew HO_128001.out)
      have n2_ := mk0 (blk_drew BK120.out)
      have n3_ := mk0 (blk_drew BK127.out)
      have n4_ := mk0 (below_drew1 HB.out)
      clear HO_128000
      clear HO_128001
      clear BK120
      clear BK127
      clear HB
      have HO_128000 := n0_
      have HO_128001 := n1_
      have BK120 := n2_
      have BK127 := n3_
      have HB := n4_
      clear n0_ n1_ n2_ n3_ n4_
      obtain ⟨Ao17, co17, eo17⟩ := Kd.R_slice HO_128001.out
      (first | subst eo17 | (injection eo17 with f1_ f2_ f3_; have f4_ := f1_.symm; have f5_ := f3_.symm; clear f1_ f2_ f3_; subst f4_; subst f5_))
      refine start_ (n := 9) (S := fun w' => w'.cell? ⟨gb127, 0, none⟩ = some (.slice A0 y124.length c0) ∧ w'.cell? ⟨gb127, 1, none⟩ = some (.slice Ao17 x128001_1.length co17) ∧ w'.cell? ⟨gb127, 2, none⟩ = some (.slice none 0 0)) (ds := [8]) #[O,O,O,O,O,O,O,O,O] (by kernel_rfl) rfl rfl ⟨(blk_cell BK127.out 0).trans rfl, (blk_cell BK127.out 1).trans rfl, (blk_cell BK127.out 2).trans rfl⟩ (fun hHeld => ?_); refine with_tabW spec_l18Write.tab5 spec_l18Write.bits5 (fun HT_ HW_ => ?_)
      generalize wr.drew = w16 at HO_128000 HO_128001 BK120 BK127 HB hHeld ⊢
      refine pure_ (i := 0) (N := some 17) (v := ?_) (a' := ?_) #[I,O,O,O,O,O,O,O,O] rfl rfl (any_of HT_.out (by kernel_rfl)) (fun _ _ _ h => h) (Or.inl ⟨by rfl, ?_⟩) ?_ ?_
      rotate_left
      ·intro w'
       go_simp
       with_reducible rfl
      rotate_left
      ·simp only [Act.put, s1, s2, s3, i64_w]
       rfl
      refine pure_ (i := 3) (N := some 20) (v := ?_) (a' := ?_) #[I,O,O,I,O,O,O,O,O] rfl rfl (any_of HT_.out (by kernel_rfl)) (fun _ _ _ h => h) (Or.inl ⟨by rfl, ?_⟩) ?_ ?_
      rotate_left
      ·intro w'
       go_simp
       with_reducible rfl
      rotate_left
      ·simp only [Act.put, s1, s2, s3, i64_w]
       rfl
      refine take_ (i := 1) (N := some 18) (v := ?_) (a' := ?_) #[I,I,O,I,O,O,O,O,O] rfl rfl (take_ofW HT_.out HW_.out (by kernel_rfl)) (fun _ _ _ h => h) (Or.inl ⟨by rfl, ?_⟩) hHeld ?_ ?_
      rotate_left
      ·rintro w' ⟨s0, s1, s2⟩
       go_simp
       with_reducible rfl
      rotate_left
      ·simp only [Act.put, s1, s2, s3, i64_w]
       rfl
      refine take_ (i := 2) (N := some 19) (v := ?_) (a' := ?_) #[I,I,I,I,O,O,O,O,O] rfl rfl (take_ofW HT_.out HW_.out (by kernel_rfl)) (fun _ _ _ h => h) (Or.inl ⟨by rfl, ?_⟩) hHeld ?_ ?_
      rotate_left
      ·rintro w' ⟨s0, s1, s2⟩
       go_simp
       with_reducible rfl
      rotate_left
      ·simp only [Act.put, s1, s2, s3, i64_w]
       rfl
      refine one_ (i := 4) (N := some 21) #[I,I,I,I,I,O,O,O,O] rfl rfl (one_of HT_.out (by kernel_rfl)) (by decide) (fun K hK => ?_)
      refine goes_ Try.func60 (by kernel_rfl) rfl #[.agg #[.slice A0 y124.length c0, .slice Ao17 x128001_1.length co17, .slice none 0 0], .int .i64 x8_1, .bool false] (by rfl) rfl rfl ar ?_
      refine (spec_l18First.calls k1 _ _ y124 _ _ x128001_1 _ _ ([] : List Int) x8_1 false t128 _ ?side1 ?side2 ?side3 ?side4 ?side5 ?side6 A14.out).mono ?_
      (case side1 => exact cA (Kd.R_reads' HO_128000.out).2.2)
      (case side2 => exact (Kd.R_reads' HO_128000.out).2.1)
      (case side3 => exact cA (Kd.R_reads' HO_128001.out).2.2)
      (case side4 => exact (Kd.R_reads' HO_128001.out).2.1)
      (case side5 => exact Kd.C_nil _ _)
      (case side6 => exact Nat.le_refl _)
      rintro e w18 ⟨rfl, hb⟩
      refine ⟨_, rfl, ?_⟩
      have n0_ := mk0 (Kd.R_below (rA HO_128000.out) hb)
      have n1_ := mk0 (Kd.R_below (rA HO_128001.out) hb)
      have n2_ := mk0 (bB BK120.out hb)
      have n3_ := mk0 (bB BK127.out hb)
      have n4_ := mk0 (below_step (hA HB.out) hb)
      clear HO_128000
      clear HO_128001
      clear BK120
      clear BK127
      clear HB
      have HO_128000 := n0_
      have HO_128001 := n1_
      have BK120 := n2_
      have BK127 := n3_
      have HB := n4_
      clear n0_ n1_ n2_ n3_ n4_
      (try clear hb); (try clear hb2); (try clear hk); (try clear hi)
      refine hK.out _ _ ⟨(blk_cell BK127.out 0).trans rfl, (blk_cell BK127.out 1).trans rfl, (blk_cell BK127.out 2).trans rfl⟩ (fun hHeld => ?_)
      clear hK K
      refine norm_ (a' := ?_) ?_ ?_
      rotate_left
      ·show Act.put _ (some 21) _ = _
       simp only [Act.put, s1, s2, s3, i64_w]
       rfl
      refine one_ (i := 5) (N := some 22) #[I,I,I,I,I,I,O,O,O] rfl rfl (one_of HT_.out (by kernel_rfl)) (by decide) (fun K hK => ?_)
      refine value_ (w1 := ?_) (v := ?_) (by rfl) rfl ?_ ?_
      rotate_left 2
      ·go_simp
       constructor
       ·rfl
       ·rfl
      refine hK.out _ _ ⟨(blk_cell (blk_alloc BK127.out _) 0).trans rfl, (blk_cell (blk_alloc BK127.out _) 1).trans rfl, (blk_cell (blk_alloc BK127.out _) 2).trans rfl⟩ (fun hHeld => ?_)
      clear hK K
      refine norm_ (a' := ?_) ?_ ?_
      rotate_left
      ·show Act.put _ (some 22) _ = _
       simp only [Act.put, s1, s2, s3, i64_w]
       rfl
      refine one_ (i := 6) (N := some 23) #[I,I,I,I,I,I,I,O,O] rfl rfl (one_of HT_.out (by kernel_rfl)) (by decide) (fun K hK => ?_)
      refine Kd.R_append_step (Kd.int .i64) (w0 := w) w.heap.size (by rfl) (.tmp 18) (.tmp 22) 23 3 (.int .i64 0) 8 rfl Try.underlying23 info3 rfl (by decide) (by omega) (.slice Ao17 x128001_1.length co17) x128001_1 t128 [.int .i64 t128] (fun _ => True) (fun _ => False) rfl rfl ?aP (fun _ hk => hk.elim) ?aF ?aO ?aB ?aS ?aL ?_
      (case aP => exact rfl)
      (case aB => exact (hA HB.out))
      (case aF => exact (fun _ _ => trivial))
      (case aO => exact (rA HO_128001.out))
      (case aS => exact (below_size (hA HB.out)))
      (case aL => have := LMc15.out; omega)
      intro v130 w19 ho hb hg hat
      rw [← Ny129.out] at ho
      have n0_ := mk0 (Kd.R_over' (rA HO_128000.out) (Kd.R_typed (rA HO_128001.out)) (by decide) hg)
      have n1_ := mk0 (blk_grown (g := gb120) (o := .cells #[.slice none 0 0, .slice none 0 0, .slice none 0 0] 29 (0, 0)) (bA BK120.out) hg (Kd.R_ne HO_128001.out BK120.out (by decide)))
      have n2_ := mk0 (blk_grown (g := gb127) (o := .cells #[.slice A0 y124.length c0, .slice Ao17 x128001_1.length co17, .slice none 0 0] 29 (0, 0)) (bA BK127.out) hg (Kd.R_ne HO_128001.out BK127.out (by decide)))
      have n3_ := mk0 (hb)
      have n4_ := mk0 (ho)
      clear HO_128000
      clear BK120
      clear BK127
      clear HB
      clear HO_128001
      have HO_128000 := n0_
      have BK120 := n1_
      have BK127 := n2_
      have HB := n3_
      have HO131 := n4_
      clear n0_ n1_ n2_ n3_ n4_
      clear ho hb hg hat
      obtain ⟨Ao20, co20, eo20⟩ := Kd.R_slice HO131.out
      (first | subst eo20 | (injection eo20 with f1_ f2_ f3_; have f4_ := f1_.symm; have f5_ := f3_.symm; clear f1_ f2_ f3_; subst f4_; subst f5_))
      refine hK.out _ _ ⟨(blk_cell BK127.out 0).trans rfl, (blk_cell BK127.out 1).trans rfl, (blk_cell BK127.out 2).trans rfl⟩ (fun hHeld => ?_)
      clear hK K
      refine norm_ (a' := ?_) ?_ ?_
      rotate_left
      ·show Act.put _ (some 23) _ = _
       simp only [Act.put, s1, s2, s3, i64_w]
       rfl
      refine pure_ (i := 7) (N := some 24) (v := ?_) (a' := ?_) #[I,I,I,I,I,I,I,I,O] rfl rfl (any_of HT_.out (by kernel_rfl)) (fun _ _ _ h => h) (Or.inl ⟨by rfl, ?_⟩) ?_ ?_
      rotate_left
      ·intro w'
       go_simp
       with_reducible rfl
      rotate_left
      ·simp only [Act.put, s1, s2, s3, i64_w]
       rfl
      refine last_ (i := 8) (N := none) #[I,I,I,I,I,I,I,I,I] rfl rfl (one_of HT_.out (by kernel_rfl)) (by decide) (fun K hK => ?_)
      have hs21 : w19.cell? ⟨gb127, 1, none⟩ = some (.slice Ao17 x128001_1.length co17) := (blk_cell BK127.out 1).trans rfl
      have hfs21 := blk_frozen BK127.out 1
      have hns21_0 := NB120_127.out
      have hms21_0 := NB127_120.out
      refine skip_ (w1 := ?_) (by rfl) rfl ?_ ?_
      rotate_left
      ·go_simp
       rfl
      refine hK.out _ _ ?_
      clear hK K
      refine done_ (done_of HT_.out (by kernel_rfl)) ?_
      try go_wp2
      go_roundg k1
      case measure => have := HK1.out; omega
      case rel => exact ⟨(wrap64 (x8_1 + 1)), (y129), (.slice Ao20 y129.length co20), rs, H', ⟨by have := HK1.out; omega⟩, ⟨by refine rC (a := ?_); exact Kd.R_mono (Kd.R_far (p := ⟨gb127, 1, none⟩) (Kd.R_types HO_128000.out BK127.out (by decide)) (fun _ hk => hk.2) (.slice Ao20 y129.length co20)) (fun _ hk => trivial)⟩, ⟨by refine rC (a := ?_); exact Kd.R_mono (Kd.R_far (p := ⟨gb127, 1, none⟩) (Kd.R_types HO131.out BK127.out (by decide)) (fun _ hk => hk.2) (.slice Ao20 y129.length co20)) (fun _ hk => trivial)⟩, ⟨by refine bC (a := ?_); refine blk_far ?_ NB120_127.out _; refine bC (a := ?_); exact BK120.out⟩, ⟨by refine bC (a := ?_); refine blk_put (cs := #[.slice A0 y124.length c0, .slice Ao17 x128001_1.length co17, .slice none 0 0]) ?_ 1 _ rfl; refine bC (a := ?_); exact BK127.out⟩, ⟨hA HB.out⟩⟩
     ·rw [if_neg c15] at H
      exact absurd H (by simp)
    ·rw [if_neg c13] at H
     have c13b0 : decide (x8_1 < a1) = false := decide_eq_false c13
     clear c13
     have H' := mk0 H
     clear H
     go_wp2
     go_loopg [9] k1 (fun kq v9 w' => ∃ (x9_2 : Int) (x128002_2 : List Int) (u128002 : Value), v9 = .int .i64 x9_2 ∧ Aside0 (spec_l18Write.l1 kq a2 x9_2 y124 x128001_1 x128002_2 = some (r1, r2, r3)) ∧ Aside0 (kq ≤ k1) ∧ Aside0 (Kd.R k50 50 w' base_ (fun _ => True) (.slice A0 y124.length c0) y124) ∧ Aside0 (Kd.R (Kd.int .i64) 3 w' w.heap.size (fun k_ => some k_ ≠ (u128002 : Value).ownBlock) u128001 x128001_1) ∧ Aside0 (Kd.R (Kd.int .i64) 3 w' w.heap.size (fun k_ => some k_ ≠ (u128001 : Value).ownBlock) u128002 x128002_2) ∧ Aside0 (w'.heap[gb120]? = some (.cells #[(.slice none 0 0), (.slice none 0 0), (.slice none 0 0)] 29 (0, 0))) ∧ Aside0 (w'.heap[gb127]? = some (.cells #[(.slice A0 y124.length c0), u128001, u128002] 29 (0, 0))) ∧ Aside0 (Below w.heap.size w w'))
     case atStart => exact ⟨(0), (([] : List Int)), (.slice none 0 0), rs, H', ⟨Nat.le_refl _⟩, ⟨by refine rC (a := ?_); exact HO_128000.out⟩, ⟨by refine rC (a := ?_); exact Kd.R_mono HO_128001.out (fun _ hk => (by simp [Value.ownBlock]))⟩, ⟨by first | exact Kd.R_nil _ _ _ _ _ | exact Kd.N_nil _ _ _ _ _ | exact Kd.V_nil _ _ _ _ _ | exact Kd.Q_nil _ _ _ _ _ | exact Kd.S_nil _ _ _ _ _⟩, ⟨by refine bC (a := ?_); exact BK120.out⟩, ⟨by refine bC (a := ?_); exact BK127.out⟩, ⟨hA HB.out⟩⟩
     case round =>
      clear H'
      (try clear c1); (try clear p2); (try clear c3); (try clear c4); (try clear c6); (try clear p6); (try clear c11); (try clear c13); (try clear c13b0); (try clear c15); (try clear hcz12_0); (try clear hcz12_1); (try clear hcz12_2); (try clear hfz12_0); (try clear hfz12_1); (try clear hfz12_2); (try clear p2)
      obtain ⟨x9_2, x128002_2, u128002, rfl, HA, HK2, HO_128000, HO_128001, HO_128002, BK120, BK127, HB⟩ := hrel
      cases gk with
      | zero => exact absurd HA.out (by simp [spec_l18Write.l1])
      | succ k2 =>
       have H := HA.out
       clear HA
       simp only [spec_l18Write.l1] at H
       by_cases c22 : x9_2 < a2
       ·rw [if_pos c22] at H
        have c22b0 : decide (x9_2 < a2) = true := decide_eq_true c22
        clear c22
        replace H := Option.bind_eq_some_iff.mp H
        obtain ⟨t132, A230, H⟩ := H
        replace H : (if x128002_2.length < 17592186044416 then (spec_l18Write.l1 k2 a2 (wrap64 (x9_2 + 1)) y124 x128001_1 (x128002_2 ++ [t132])) else (none)) = some (r1, r2, r3) := H
        have A23 := mk0 A230
        clear A230
        by_cases c24 : x128002_2.length < 17592186044416
        ·rw [if_pos c24] at H
         have LMc24 := mk0 c24
         clear c24
         obtain ⟨y133, hy133⟩ : ∃ y_ : List Int, y_ = (x128002_2 ++ [t132]) := ⟨_, rfl⟩
         replace H : (spec_l18Write.l1 k2 a2 (wrap64 (x9_2 + 1)) y124 x128001_1 y133) = some (r1, r2, r3) := by first | (rw [hy133]; with_reducible exact H) | (have H2_ := (Option.bind_some _ _).symm.trans H; rw [hy133]; with_reducible exact H2_) | (have H2_ := (Option.bind_some _ _).symm.trans H; with_reducible exact H2_) | with_reducible exact H | (rw [hy133]; exact H) | exact H
         have Ny133 := mk0 hy133
         clear hy133
         have H' := mk0 H
         clear H
         try go_wp2
         have n0_ := mk0 (Kd.R_drew HO_128000.out)
         have n1_ := mk0 (Kd.R_drew HO_128001.out)
         have n2_ := mk0 (Kd.R_drew HO_128002.out)
         have n3_ := mk0 (blk_drew BK120.out)
         have n4_ := mk0 (blk_drew BK127.out)
         have n5_ := mk0 (below_drew1 HB.out)
         clear HO_128000
         clear HO_128001
         clear HO_128002
         clear BK120
         clear BK127
         clear HB
         have HO_128000 := n0_
         have HO_128001 := n1_
         have HO_128002 := n2_
         have BK120 := n3_
         have BK127 := n4_
         have HB := n5_
         clear n0_ n1_ n2_ n3_ n4_ n5_
         obtain ⟨Ao26, co26, eo26⟩ := Kd.R_slice HO_128001.out
         (first | subst eo26 | (injection eo26 with f1_ f2_ f3_; have f4_ := f1_.symm; have f5_ := f3_.symm; clear f1_ f2_ f3_; subst f4_; subst f5_))
         obtain ⟨Ao27, co27, eo27⟩ := Kd.R_slice HO_128002.out
         (first | subst eo27 | (injection eo27 with f1_ f2_ f3_; have f4_ := f1_.symm; have f5_ := f3_.symm; clear f1_ f2_ f3_; subst f4_; subst f5_))
         refine start_ (n := 9) (S := fun w' => w'.cell? ⟨gb127, 0, none⟩ = some (.slice A0 y124.length c0) ∧ w'.cell? ⟨gb127, 1, none⟩ = some (.slice Ao26 x128001_1.length co26) ∧ w'.cell? ⟨gb127, 2, none⟩ = some (.slice Ao27 x128002_2.length co27)) (ds := [8]) #[O,O,O,O,O,O,O,O,O] (by kernel_rfl) rfl rfl ⟨(blk_cell BK127.out 0).trans rfl, (blk_cell BK127.out 1).trans rfl, (blk_cell BK127.out 2).trans rfl⟩ (fun hHeld => ?_); refine with_tabW spec_l18Write.tab9 spec_l18Write.bits9 (fun HT_ HW_ => ?_)
         generalize wr.drew = w25 at HO_128000 HO_128001 HO_128002 BK120 BK127 HB hHeld ⊢
         refine pure_ (i := 0) (N := some 30) (v := ?_) (a' := ?_) #[I,O,O,O,O,O,O,O,O] rfl rfl (any_of HT_.out (by kernel_rfl)) (fun _ _ _ h => h) (Or.inl ⟨by rfl, ?_⟩) ?_ ?_
         rotate_left
         ·intro w'
          go_simp
          with_reducible rfl
         rotate_left
         ·simp only [Act.put, s1, s2, s3, i64_w]
          rfl
         refine pure_ (i := 3) (N := some 33) (v := ?_) (a' := ?_) #[I,O,O,I,O,O,O,O,O] rfl rfl (any_of HT_.out (by kernel_rfl)) (fun _ _ _ h => h) (Or.inl ⟨by rfl, ?_⟩) ?_ ?_
         rotate_left
         ·intro w'
          go_simp
          with_reducible rfl
         rotate_left
         ·simp only [Act.put, s1, s2, s3, i64_w]
          rfl
         refine take_ (i := 1) (N := some 31) (v := ?_) (a' := ?_) #[I,I,O,I,O,O,O,O,O] rfl rfl (take_ofW HT_.out HW_.out (by kernel_rfl)) (fun _ _ _ h => h) (Or.inl ⟨by rfl, ?_⟩) hHeld ?_ ?_
         rotate_left
         ·rintro w' ⟨s0, s1, s2⟩
          go_simp
          with_reducible rfl
         rotate_left
         ·simp only [Act.put, s1, s2, s3, i64_w]
          rfl
         refine take_ (i := 2) (N := some 32) (v := ?_) (a' := ?_) #[I,I,I,I,O,O,O,O,O] rfl rfl (take_ofW HT_.out HW_.out (by kernel_rfl)) (fun _ _ _ h => h) (Or.inl ⟨by rfl, ?_⟩) hHeld ?_ ?_
         rotate_left
         ·rintro w' ⟨s0, s1, s2⟩
          go_simp
          with_reducible rfl
         rotate_left
         ·simp only [Act.put, s1, s2, s3, i64_w]
          rfl
         refine one_ (i := 4) (N := some 34) #[I,I,I,I,I,O,O,O,O] rfl rfl (one_of HT_.out (by kernel_rfl)) (by decide) (fun K hK => ?_)
         refine goes_ Try.func60 (by kernel_rfl) rfl #[.agg #[.slice A0 y124.length c0, .slice Ao26 x128001_1.length co26, .slice Ao27 x128002_2.length co27], .int .i64 x9_2, .bool true] (by rfl) rfl rfl ar ?_
         with_reducible refine (spec_l18First.calls k2 _ _ y124 _ _ x128001_1 _ _ x128002_2 x9_2 true t132 _ ?side1 ?side2 ?side3 ?side4 ?side5 ?side6 A23.out).mono ?_
         (case side1 => exact cA (Kd.R_reads' HO_128000.out).2.2)
         (case side2 => exact (Kd.R_reads' HO_128000.out).2.1)
         (case side3 => exact cA (Kd.R_reads' HO_128001.out).2.2)
         (case side4 => exact (Kd.R_reads' HO_128001.out).2.1)
         (case side5 => exact cA (Kd.R_reads' HO_128002.out).2.2)
         (case side6 => exact (Kd.R_reads' HO_128002.out).2.1)
         rintro e w28 ⟨rfl, hb⟩
         refine ⟨_, rfl, ?_⟩
         have n0_ := mk0 (Kd.R_below (rA HO_128000.out) hb)
         have n1_ := mk0 (Kd.R_below (rA HO_128001.out) hb)
         have n2_ := mk0 (Kd.R_below (rA HO_128002.out) hb)
         have n3_ := mk0 (bB BK120.out hb)
         have n4_ := mk0 (bB BK127.out hb)
         have n5_ := mk0 (below_step (hA HB.out) hb)
         clear HO_128000
         clear HO_128001
         clear HO_128002
         clear BK120
         clear BK127
         clear HB
         have HO_128000 := n0_
         have HO_128001 := n1_
         have HO_128002 := n2_
         have BK120 := n3_
         have BK127 := n4_
         have HB := n5_
         clear n0_ n1_ n2_ n3_ n4_ n5_
         (try clear hb); (try clear hb2); (try clear hk); (try clear hi)
         refine hK.out _ _ ⟨(blk_cell BK127.out 0).trans rfl, (blk_cell BK127.out 1).trans rfl, (blk_cell BK127.out 2).trans rfl⟩ (fun hHeld => ?_)
         clear hK K
         refine norm_ (a' := ?_) ?_ ?_
         rotate_left
         ·show Act.put _ (some 34) _ = _
          simp only [Act.put, s1, s2, s3, i64_w]
          rfl
         refine one_ (i := 5) (N := some 35) #[I,I,I,I,I,I,O,O,O] rfl rfl (one_of HT_.out (by kernel_rfl)) (by decide) (fun K hK => ?_)
         refine value_ (w1 := ?_) (v := ?_) (by rfl) rfl ?_ ?_
         rotate_left 2
         ·go_simp
          constructor
          ·rfl
          ·rfl
         refine hK.out _ _ ⟨(blk_cell (blk_alloc BK127.out _) 0).trans rfl, (blk_cell (blk_alloc BK127.out _) 1).trans rfl, (blk_cell (blk_alloc BK127.out _) 2).trans rfl⟩ (fun hHeld => ?_)
         clear hK K
         refine norm_ (a' := ?_) ?_ ?_
         rotate_left
         ·show Act.put _ (some 35) _ = _
          simp only [Act.put, s1, s2, s3, i64_w]
          rfl
         refine one_ (i := 6) (N := some 36) #[I,I,I,I,I,I,I,O,O] rfl rfl (one_of HT_.out (by kernel_rfl)) (by decide) (fun K hK => ?_)
         refine Kd.R_append_step (Kd.int .i64) (w0 := w) w.heap.size (by rfl) (.tmp 31) (.tmp 35) 23 3 (.int .i64 0) 8 rfl Try.underlying23 info3 rfl (by decide) (by omega) (.slice Ao27 x128002_2.length co27) x128002_2 t132 [.int .i64 t132] (fun k_ => some k_ ≠ (.slice Ao26 x128001_1.length co26 : Value).ownBlock) (fun _ => False) rfl rfl ?aP (fun _ hk => hk.elim) ?aF ?aO ?aB ?aS ?aL ?_
         (case aP => exact rfl)
         (case aB => exact (hA HB.out))
         (case aF => exact (fun k_ hk => Kd.fresh' (Kd.R_lt (rA HO_128001.out)) k_ hk))
         (case aO => exact (rA HO_128002.out))
         (case aS => exact (below_size (hA HB.out)))
         (case aL => have := LMc24.out; omega)
         intro v134 w29 ho hb hg hat
         rw [← Ny133.out] at ho
         have n0_ := mk0 (Kd.R_over' (rA HO_128000.out) (Kd.R_typed (rA HO_128002.out)) (by decide) hg)
         have n1_ := mk0 (Kd.R_after (ok := (fun _ => True)) (rC (a := by exact Kd.R_mono HO_128001.out (fun _ hk => ⟨trivial, hk⟩))) hg hat)
         have n2_ := mk0 (blk_grown (g := gb120) (o := .cells #[.slice none 0 0, .slice none 0 0, .slice none 0 0] 29 (0, 0)) (bA BK120.out) hg (Kd.R_ne HO_128002.out BK120.out (by decide)))
         have n3_ := mk0 (blk_grown (g := gb127) (o := .cells #[.slice A0 y124.length c0, .slice Ao26 x128001_1.length co26, .slice Ao27 x128002_2.length co27] 29 (0, 0)) (bA BK127.out) hg (Kd.R_ne HO_128002.out BK127.out (by decide)))
         have n4_ := mk0 (hb)
         have n5_ := mk0 (ho)
         clear HO_128000
         clear HO_128001
         clear BK120
         clear BK127
         clear HB
         clear HO_128002
         have HO_128000 := n0_
         have HO_128001 := n1_
         have BK120 := n2_
         have BK127 := n3_
         have HB := n4_
         have HO135 := n5_
         clear n0_ n1_ n2_ n3_ n4_ n5_
         clear ho hb hg hat
         obtain ⟨Ao30, co30, eo30⟩ := Kd.R_slice HO135.out
         (first | subst eo30 | (injection eo30 with f1_ f2_ f3_; have f4_ := f1_.symm; have f5_ := f3_.symm; clear f1_ f2_ f3_; subst f4_; subst f5_))
         refine hK.out _ _ ⟨(blk_cell BK127.out 0).trans rfl, (blk_cell BK127.out 1).trans rfl, (blk_cell BK127.out 2).trans rfl⟩ (fun hHeld => ?_)
         clear hK K
         refine norm_ (a' := ?_) ?_ ?_
         rotate_left
         ·show Act.put _ (some 36) _ = _
          simp only [Act.put, s1, s2, s3, i64_w]
          rfl
         refine pure_ (i := 7) (N := some 37) (v := ?_) (a' := ?_) #[I,I,I,I,I,I,I,I,O] rfl rfl (any_of HT_.out (by kernel_rfl)) (fun _ _ _ h => h) (Or.inl ⟨by rfl, ?_⟩) ?_ ?_
         rotate_left
         ·intro w'
          go_simp
          with_reducible rfl
         rotate_left
         ·simp only [Act.put, s1, s2, s3, i64_w]
          rfl
         refine last_ (i := 8) (N := none) #[I,I,I,I,I,I,I,I,I] rfl rfl (one_of HT_.out (by kernel_rfl)) (by decide) (fun K hK => ?_)
         have hs31 : w29.cell? ⟨gb127, 2, none⟩ = some (.slice Ao27 x128002_2.length co27) := (blk_cell BK127.out 2).trans rfl
         have hfs31 := blk_frozen BK127.out 2
         have hns31_0 := NB120_127.out
         have hms31_0 := NB127_120.out
         refine skip_ (w1 := ?_) (by rfl) rfl ?_ ?_
         rotate_left
         ·go_simp
          rfl
         refine hK.out _ _ ?_
         clear hK K
         refine done_ (done_of HT_.out (by kernel_rfl)) ?_
         try go_wp2
         go_roundg k2
         case measure => have := HK1.out; have := HK2.out; omega
         case rel => exact ⟨(wrap64 (x9_2 + 1)), (y133), (.slice Ao30 y133.length co30), rs, H', ⟨by have := HK1.out; have := HK2.out; omega⟩, ⟨by refine rC (a := ?_); exact Kd.R_mono (Kd.R_far (p := ⟨gb127, 2, none⟩) (Kd.R_types HO_128000.out BK127.out (by decide)) (fun _ hk => hk.2) (.slice Ao30 y133.length co30)) (fun _ hk => trivial)⟩, ⟨by refine rC (a := ?_); exact Kd.R_mono (Kd.R_far (p := ⟨gb127, 2, none⟩) (Kd.R_types HO_128001.out BK127.out (by decide)) (fun _ hk => hk.2) (.slice Ao30 y133.length co30)) (fun _ hk => hk.1.2)⟩, ⟨by refine rC (a := ?_); exact Kd.R_mono (Kd.R_far (p := ⟨gb127, 2, none⟩) (Kd.R_types HO135.out BK127.out (by decide)) (fun _ hk => hk.2) (.slice Ao30 y133.length co30)) (fun _ hk => hk.1)⟩, ⟨by refine bC (a := ?_); refine blk_far ?_ NB120_127.out _; refine bC (a := ?_); exact BK120.out⟩, ⟨by refine bC (a := ?_); refine blk_put (cs := #[.slice A0 y124.length c0, .slice Ao26 x128001_1.length co26, .slice Ao27 x128002_2.length co27]) ?_ 2 _ rfl; refine bC (a := ?_); exact BK127.out⟩, ⟨hA HB.out⟩⟩
        ·rw [if_neg c24] at H
         exact absurd H (by simp)
       ·rw [if_neg c22] at H
        have c22b0 : decide (x9_2 < a2) = false := decide_eq_false c22
        clear c22
        simp only [Option.some.injEq, Prod.mk.injEq] at H
        obtain ⟨rfl, rfl, rfl⟩ := H
        have hnb32 := NB127_120.out
        have hnc32 := NB120_127.out
        have hcz33_0 : wr.cell? ⟨gb127, 0, none⟩ = some (.slice A0 y124.length c0) := (blk_cell BK127.out 0).trans rfl
        have hcz33_1 : wr.cell? ⟨gb127, 1, none⟩ = some (u128001) := (blk_cell BK127.out 1).trans rfl
        have hcz33_2 : wr.cell? ⟨gb127, 2, none⟩ = some (u128002) := (blk_cell BK127.out 2).trans rfl
        have hfz33_0 := blk_frozen BK127.out 0
        have hfz33_1 := blk_frozen BK127.out 1
        have hfz33_2 := blk_frozen BK127.out 2
        have hcz34_0 : wr.cell? ⟨gb120, 0, none⟩ = some (.slice none 0 0) := (blk_cell BK120.out 0).trans rfl
        have hcz34_1 : wr.cell? ⟨gb120, 1, none⟩ = some (.slice none 0 0) := (blk_cell BK120.out 1).trans rfl
        have hcz34_2 : wr.cell? ⟨gb120, 2, none⟩ = some (.slice none 0 0) := (blk_cell BK120.out 2).trans rfl
        have hfz34_0 := blk_frozen BK120.out 0
        have hfz34_1 := blk_frozen BK120.out 1
        have hfz34_2 := blk_frozen BK120.out 2
        obtain ⟨Ao35, co35, eo35⟩ := Kd.R_slice HO_128001.out
        subst eo35
        obtain ⟨Ao36, co36, eo36⟩ := Kd.R_slice HO_128002.out
        subst eo36
        go_wp2
        refine bodyPost_ret (results_cell_row rfl _ _ gb120 29 #[.slice A0 y124.length c0, .slice Ao35 x128001_1.length co35, .slice Ao36 x128002_2.length co36] (0, 0) _ rfl (by refine bC (a := ?_); refine blk_put (cs := #[.slice A0 y124.length c0, .slice Ao35 x128001_1.length co35, .slice none 0 0]) ?_ 2 _ rfl; refine bC (a := ?_); refine blk_put (cs := #[.slice A0 y124.length c0, .slice none 0 0, .slice none 0 0]) ?_ 1 _ rfl; refine bC (a := ?_); refine blk_put (cs := #[.slice none 0 0, .slice none 0 0, .slice none 0 0]) ?_ 0 _ rfl; refine bC (a := ?_); exact BK120.out) Try.underlying29 rfl (by kernel_rfl)) rfl ?_
        exact ⟨_, _, _, er, by refine rC (a := ?_); exact Kd.R_mono (Kd.R_far (p := ⟨gb120, 2, none⟩) (Kd.R_far (p := ⟨gb120, 1, none⟩) (Kd.R_far (p := ⟨gb120, 0, none⟩) (Kd.R_types HO_128000.out BK120.out (by decide)) (fun _ hk => hk.2) (.slice A0 y124.length c0)) (fun _ hk => hk.2) (.slice Ao35 x128001_1.length co35)) (fun _ hk => hk.2) (.slice Ao36 x128002_2.length co36)) (fun _ hk => trivial), by refine rC (a := ?_); exact Kd.R_mono (Kd.R_far (p := ⟨gb120, 2, none⟩) (Kd.R_far (p := ⟨gb120, 1, none⟩) (Kd.R_far (p := ⟨gb120, 0, none⟩) (Kd.R_types HO_128001.out BK120.out (by decide)) (fun _ hk => hk.2) (.slice A0 y124.length c0)) (fun _ hk => hk.2) (.slice Ao35 x128001_1.length co35)) (fun _ hk => hk.2) (.slice Ao36 x128002_2.length co36)) (fun _ hk => hk.1), by refine rC (a := ?_); exact Kd.R_mono (Kd.R_far (p := ⟨gb120, 2, none⟩) (Kd.R_far (p := ⟨gb120, 1, none⟩) (Kd.R_far (p := ⟨gb120, 0, none⟩) (Kd.R_types HO_128002.out BK120.out (by decide)) (fun _ hk => hk.2) (.slice A0 y124.length c0)) (fun _ hk => hk.2) (.slice Ao35 x128001_1.length co35)) (fun _ hk => hk.2) (.slice Ao36 x128002_2.length co36)) (fun _ hk => hk.1), hA HB.out⟩
 ·rw [if_neg c4] at H
  exact absurd H (by simp)
end Go.Proofs.Ytngnkfpciloamaa.MFnBooked
