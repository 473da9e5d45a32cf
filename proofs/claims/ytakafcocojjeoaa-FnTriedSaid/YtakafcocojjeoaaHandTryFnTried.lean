/- The parts of Try that the print does not take (closures handed to the library): what they answer, and that the code comes to it. -/
import Derived.Test.YtakafcocojjeoaaMFnTriedx5
import Derived.Test.YtakafcocojjeoaaKitFnTried
import Derived.Test.YtakafcocojjeoaaShelfDFnTried
import Derived.Lib.RowBridge
import Derived.Outline
import Derived.Lib.SliceRun
import Derived.Laws.CopyOwn
import Derived.Deep.RegionLaw
import Derived.RegionTactic
import Derived.ChangeAlike
import Derived.BigRegion
import Derived.StillTailTactics
import Derived.StillTactics
import Derived.Deep.RegionHeld3
namespace Go.Proofs.Ytakafcocojjeoaa.MFnTried
open Go Go.RowKit Go.Lib Go.Sort Go.Proofs.YtakafcocojjeoaaW.PrintWords Go.Proofs.YtakafcocojjeoaaW.PrintLast Go.Proofs.YtakafcocojjeoaaW.PrintMore Go.Proofs.Ytakafcocojjeoaa.Mine
attribute [local go_sem] max2_int min2_int max_two min_two max_three min_three max_four min_four
set_option linter.unusedVariables false
set_option linter.unusedSimpArgs false
/-! ### slices.DeleteFunc, slices.IsSortedFunc at Try's closures -/
/-- All elements of a slice of the call's own are written. -/
theorem R_int_put {W : World} {base g n cap : Nat} {ok : Nat → Prop} {xs ys : List Int} (h : (Kd.int .i64).R 3 W base ok (.slice (some ⟨g, 0, none⟩) n cap) xs) (hl : ys.length = n) :
  (Kd.int .i64).R 3 (W.setCells g 0 (ys.map (Value.int .i64))) base ok (.slice (some ⟨g, 0, none⟩) n cap) ys ∧ W.grownBy (W.setCells g 0 (ys.map (Value.int .i64))) (some g) := by
 have ho := Kd.own_of_R h
 obtain ⟨hok, _⟩ := h
 rcases ho.2 with ⟨hv, _⟩ | ⟨g', cap', cur, hv, hb, hh, hnc, hcm, hcs, ht⟩
 ·cases hv
 injection hv with ha hn hc
 injection ha with ha
 injection ha with hg
 subst hg; subst hc
 rw [Nat.mul_one] at hcs
 have hfit : 0 + (ys.map (Value.int .i64)).length ≤ cur.size := by rw [List.length_map]; omega
 obtain ⟨cur', h3, h4, h5⟩ := setCells_row (ys.map (Value.int .i64)) 0 W cur hh hfit
 obtain ⟨s1, s2, s3, s4⟩ := setCells_same g (ys.map (Value.int .i64)) 0 W
 have hfar : ∀ k, k ≠ g → (W.setCells g 0 (ys.map (Value.int .i64))).heap[k]? = W.heap[k]? := fun k hk => setCells_far _ _ k hk
 refine ⟨Kd.R_of_own (enc := Value.int .i64) ⟨by simp [encs], .inr ⟨g, cap, cur', by rw [hl], hb, h3, by omega, hcm, by rw [h4]; omega, ?_⟩⟩ hok, ⟨s1, s2, s3, by rw [s4]; exact Nat.le_refl _, fun k _ hk => hfar k (fun he => hk (by rw [he]))⟩⟩
 rw [h5]
 simp [encs, List.take_append]
/-- Try's closure over the tick: a call is over. -/
theorem over_gives (t x : Int) (g : Nat) (cs : Array Value) (W : World) (hb : W.cell? ⟨g, 0, none⟩ = some (.int .i64 t)) :
  FnGives Try.prog 38 #[.pointer (some ⟨g, 0, none⟩)] #[.int .i64 x] (.bool (decide (x ≤ t))) W := by
 show Calls Try.prog 38 #[.int .i64 x, .pointer (some ⟨g, 0, none⟩)] W _
 go_enter Try.func38, Try.ntmps38
 go_wp2
 all_goals (go_ret; exact ⟨by simp_all, 0, rfl⟩)
theorem del_go (t : Int) (l0 : List Int) : ∀ (k : Nat) (acc : List Int) (i : Nat) (r : List Int), slices_DeleteFunc_int_int.l0 k l0 t acc (i : Int) = some r → i ≤ l0.length → l0.length ≤ 9223372036854775807 → r = acc ++ (l0.drop i).filter (fun x => !decide (x ≤ t)) := by
 intro k
 induction k with
 | zero => intro acc i r h; simp [slices_DeleteFunc_int_int.l0] at h
 | succ k ih =>
  intro acc i r h hi hl
  simp only [slices_DeleteFunc_int_int.l0] at h
  by_cases c : (i : Int) < (l0.length : Int)
  ·have e : wrap64 ((i : Int) + 1) = ((i + 1 : Nat) : Int) := by rw [w64 (by omega) (by omega)]; omega
   rw [if_pos c, if_pos (show (0 : Int) ≤ (i : Int) by omega), e] at h
   rw [drop_rd (show i < l0.length by omega), List.filter_cons]
   by_cases c2 : rd l0 (i : Int) > t
   ·rw [if_pos c2] at h
    rw [decide_eq_false (show ¬ rd l0 (i : Int) ≤ t by omega)]
    by_cases c3 : acc.length < 17592186044416
    ·rw [if_pos c3] at h
     rw [ih _ (i + 1) r h (by omega) hl]
     simp
    ·rw [if_neg c3] at h; cases h
   ·rw [if_neg c2] at h
    rw [decide_eq_true (show rd l0 (i : Int) ≤ t by omega), ih _ (i + 1) r h (by omega) hl]
    simp
  ·rw [if_neg c] at h
   rw [List.drop_eq_nil_of_le (by omega)]
   simpa using (Option.some.inj h).symm
set_option maxHeartbeats 4000000 in
set_option maxRecDepth 100000 in
theorem del_none (fv : Value) (w : World) :
  Calls Try.prog 37 #[.slice none 0 0, fv] w fun e w' => e = .returned (.slice none 0 0) ∧ w' = w := by
 have cI : ∀ W : World, Calls Try.prog 50 #[.slice none 0 0, fv] W fun e w' => e = .returned (.int .i64 (-1)) ∧ W = w' := by
  intro W
  go_enter Try.func50, Try.ntmps50
  go_wp2
  refine wp_loop_rounds 1 ?_
  rw [rounds_succ]
  go_wp2
  go_ret
  exact ⟨rfl, rfl⟩
 go_enter Try.func37, Try.ntmps37
 go_wp2_with (go_at_call 50; refine (cI _).mono ?_; rintro e w' ⟨rfl, rfl⟩)
 go_ret
 exact ⟨rfl, rfl⟩
theorem del_calls (k : Nat) (A0 : Option Addr) (c0 : Nat) (l0 : List Int) (t : Int) (r : List Int) (w : World) (base : Nat) (ok : Nat → Prop) (g : Nat) (cs : Array Value)
  (hr : (Kd.int .i64).R 3 w base ok (.slice A0 l0.length c0) l0) (hb : w.heap[g]? = some (.cells cs 43 (0, 0))) (hc : cs[0]? = some (.int .i64 t)) (h : slices_DeleteFunc_int_int.f k l0 t = some r) :
  Calls Try.prog 37 #[.slice A0 l0.length c0, .func (.func 38) #[] #[.pointer (some ⟨g, 0, none⟩)]] w fun e w' => ∃ v0_ : Value, e = .returned v0_ ∧ (Kd.int .i64).R 3 w' base ok v0_ r ∧ w.grownBy w' (Value.slice A0 l0.length c0).ownBlock ∧ v0_.ownBlock = (Value.slice A0 l0.length c0).ownBlock := by
 have ho := Kd.own_of_R hr
 have hn := Kd.R_ne hr hb (by decide)
 have hcell : w.cell? ⟨g, 0, none⟩ = some (.int .i64 t) := (blk_cell hb 0).trans hc
 rcases ho.2 with ⟨hv, hz⟩ | ⟨gb, cap, cur, hv, hbg, hh, hnc, hcm, hcs, ht⟩
 ·injection hv with e1 e2 e3
  subst e1; subst e3
  have e0 := List.length_eq_zero_iff.mp hz
  subst e0
  have hrr := del_go t [] k [] 0 r h (Nat.le_refl _) (by simp)
  subst hrr
  refine (del_none _ w).mono ?_
  rintro e w' ⟨rfl, rfl⟩
  exact ⟨_, rfl, hr, ⟨rfl, rfl, rfl, Nat.le_refl _, fun _ _ _ => rfl⟩, rfl⟩
 ·injection hv with e1 e2 e3
  subst e1; subst e3
  unfold maxLen at hcm
  have hrr := del_go t l0 k [] 0 r h (Nat.zero_le _)
  have hcm2 : c0 ≤ 9223372036854775807 := hcm
  rw [Nat.mul_one] at hcs ht
  have hH : Holds (Value.int .i64) w gb 0 l0.toArray := by
   intro j hj
   have hj' : j < l0.length := by simpa using hj
   refine ⟨?_, blk_frozen hh _⟩
   refine (blk_cell hh (0 + j)).trans ?_
   have h2 := congrArg (fun l => l[j]?) ht
   simp only [encs, List.getElem?_take, if_pos hj', List.getElem?_map, Array.getElem?_toList] at h2
   rw [Nat.zero_add, h2]
   simp [hj']
  have hne : g ≠ gb := fun e => hn (by rw [e]; rfl)
  have hg := blk_lt hb
  have hC := AnyE.slices_DeleteFunc Try.laysDel (Value.int .i64) (fun _ => rfl) (fun x => decide (x ≤ t)) 38 #[.pointer (some ⟨g, 0, none⟩)] (enters_of Try.func38 (by kernel_rfl) rfl) 0 Try.zeroValue3 gb 0 c0 l0.toArray w
   (fun W x hB => over_gives t x g cs W ((hB.cell (p := ⟨g, 0, none⟩) hg).trans hcell))
   (fun n os dk x _ => over_gives t x g cs _ (by
    unfold sortWorld
    rw [cell?_grow _ _ _ (by show g < (putRow _ _ _ _ _).heap.size; rw [size_putRow]; exact hg), cell?_putRow_other _ _ gb 0 _ _ (Or.inl hne)]
    exact hcell))
   hH (by simp; omega) (by simp; omega)
  rw [show l0.toArray.size = l0.length by simp] at hC
  refine (show Calls Try.prog 37 _ _ _ from hC).mono ?_
  rintro e w' ⟨rfl, q, rfl⟩
  obtain rfl := hrr (by omega)
  rw [List.drop_zero, List.nil_append]
  obtain ⟨fl, hfl⟩ : ∃ fl, l0.filter (fun x => !decide (x ≤ t)) = fl := ⟨_, rfl⟩
  have hle : fl.length ≤ l0.length := by rw [← hfl]; exact List.length_filter_le _ _
  simp only [List.toList_toArray, hfl] at hfl ⊢
  rw [Lib.putRow_eq_setCells (Value.int .i64) w gb 0 l0.toArray (fl ++ List.replicate (l0.length - fl.length) 0) q hH (by simp; omega)]
  obtain ⟨h1, h2⟩ := R_int_put (Kd.R_drewN hr q) (ys := fl ++ List.replicate (l0.length - fl.length) 0) (by simp; omega)
  have h3 := Kd.R_take h1 (m := fl.length) (by simp)
  rw [List.take_left] at h3
  exact ⟨_, rfl, h3, ⟨h2.os, h2.tape, h2.output, h2.size, h2.block⟩, rfl⟩
theorem far3 {α : Type} {d : Kd α} {e base : Nat} {ok : Nat → Prop} {W : World} {v : Value} {xs : List α} {g t : Nat} {cs : Array Value} (h : d.R e W base ok v xs) (hb : W.heap[g]? = some (.cells cs t (0, 0))) (ht : ∀ q, q ∈ e :: d.E → q ≠ t) (a b c : Value) :
  d.R e (((W.setCell ⟨g, 0, none⟩ a).setCell ⟨g, 1, none⟩ b).setCell ⟨g, 2, none⟩ c) base ok v xs :=
 Kd.R_mono (Kd.R_far (p := ⟨g, 2, none⟩) (Kd.R_far (p := ⟨g, 1, none⟩) (Kd.R_far (p := ⟨g, 0, none⟩) (Kd.R_types h hb ht) (fun _ hk => hk.2) a) (fun _ hk => hk.2) b) (fun _ hk => hk.2) c) (fun _ h_ => h_.1)
/-! ### the order of the ticks -/
def cmpI (a b : Int) : Int := if a < b then -1 else if b < a then 1 else 0
theorem compare_calls (a b : Int) (w : World) :
  Calls Try.prog 36 #[.int .i64 a, .int .i64 b] w fun e w' => e = .returned (.int .i64 (cmpI a b)) ∧ Drawn0 w w' := by
 have hN : ∀ x : Int, cmp_isNaN_int.f x = some false := fun x => by simp [cmp_isNaN_int.f]
 unfold cmpI
 by_cases c : a < b
 ·have c0 : decide (a < b) = true := decide_eq_true c
  rw [if_pos c]
  clear c
  go_enter Try.func36, Try.ntmps36
  go_wp2_with (go_at_call 49; refine (cmp_isNaN_int.calls _ false _ (hN _)).mono ?_; rintro e w' ⟨rfl, ⟨nd, rfl⟩⟩)
  go_ret
  exact ⟨rfl, by repeat (first | exact Drawn0.refl _ | apply Drawn0.step)⟩
 ·have c0 : decide (a < b) = false := decide_eq_false c
  rw [if_neg c]
  clear c
  by_cases c : b < a
  ·have c1 : decide (b < a) = true := decide_eq_true c
   rw [if_pos c]
   clear c
   go_enter Try.func36, Try.ntmps36
   go_wp2_with (go_at_call 49; refine (cmp_isNaN_int.calls _ false _ (hN _)).mono ?_; rintro e w' ⟨rfl, ⟨nd, rfl⟩⟩)
   go_ret
   exact ⟨rfl, by repeat (first | exact Drawn0.refl _ | apply Drawn0.step)⟩
  ·have c1 : decide (b < a) = false := decide_eq_false c
   rw [if_neg c]
   clear c
   go_enter Try.func36, Try.ntmps36
   go_wp2_with (go_at_call 49; refine (cmp_isNaN_int.calls _ false _ (hN _)).mono ?_; rintro e w' ⟨rfl, ⟨nd, rfl⟩⟩)
   go_ret
   exact ⟨rfl, by repeat (first | exact Drawn0.refl _ | apply Drawn0.step)⟩
abbrev arrV (t : S43) : Value := .agg #[.int .i64 t.f0, .int .i64 t.f1, .int .i64 t.f2]
set_option maxHeartbeats 1000000 in
theorem cmpTick_calls (a b : S43) (w : World) :
  Calls Try.prog 35 #[arrV a, arrV b] w fun e w' => e = .returned (.int .i64 (cmpI a.f0 b.f0)) ∧ Below w.heap.size w w' := by
 go_enter Try.func35, Try.ntmps35
 go_wp2_with (go_at_call 36; refine (compare_calls _ _ _).mono ?_; rintro e w' ⟨rfl, ⟨nd, rfl⟩⟩)
 go_ret
 exact ⟨rfl, by repeat (first | exact Below.refl _ _ | apply below_alloc | apply pw_below_drewN | apply below_drew1)⟩
set_option maxHeartbeats 8000000 in
set_option maxRecDepth 100000 in
theorem srt_calls (k : Nat) (A0 : Option Addr) (c0 : Nat) (l0 : List (S43)) (r : Bool) (w : World) (hr0 : Kd.C k43 w A0 l0.length l0) (hc0 : l0.length ≤ c0) (h : impl_Arrival.f k l0 = some r) :
  Calls Try.prog 34 #[.slice A0 l0.length c0, .func (.func 35) #[] #[]] w fun e w' => e = .returned (.bool r) ∧ Below w.heap.size w w' := by
 have hu43 := Try.underlying43
 have HR0 := Aside0.mk hr0
 have HC0 := Aside0.mk hc0
 clear hr0 hc0
 have H' := Aside0.mk (show impl_Arrival.l0 k l0 (wrap64 ((l0.length : Int) - 1)) = some r from h)
 clear h
 go_enter Try.func34, Try.ntmps34
 go_wp2
 go_loopg [5] k (fun kq v5 w' => ∃ (x5_1 : Int), v5 = .int .i64 x5_1 ∧ Aside0 (impl_Arrival.l0 kq l0 x5_1 = some r) ∧ Aside0 (kq ≤ k) ∧ Aside0 (Below w.heap.size w w'))
 case atStart => exact ⟨(wrap64 ((l0.length : Int) - 1)), rfl, H', ⟨Nat.le_refl _⟩, ⟨Below.refl _ _⟩⟩
 case round =>
  clear H'
  obtain ⟨x5_1, rfl, HA, HK1, HB⟩ := hrel
  cases gk with
  | zero => exact absurd HA.out (by simp [impl_Arrival.l0])
  | succ k1 =>
   have H := HA.out
   clear HA
   simp only [impl_Arrival.l0] at H
   by_cases c4 : x5_1 > 0
   ·rw [if_pos c4] at H
    have c4b0 : decide (0 < x5_1) = true := decide_eq_true c4
    rw [if_pos (show 0 ≤ x5_1 by omega)] at H
    have p0 : 0 ≤ x5_1 := by omega
    clear c4
    by_cases q0 : x5_1 < (l0.length : Int)
    ·rw [if_pos q0] at H
     obtain ⟨ji7, hji7⟩ : ∃ j_ : Int, (wrap64 (x5_1 - 1)) = j_ := ⟨_, rfl⟩
     rw [hji7] at H
     have hji7w : (IntKind.i64.wrap (x5_1 - 1)) = ji7 := (i64_w _).trans hji7
     by_cases p1 : 0 ≤ ji7
     ·rw [if_pos p1] at H
      by_cases q1 : ji7 < (l0.length : Int)
      ·rw [if_pos q1] at H
       obtain ⟨ad, e0, hx0, hx1, hx2⟩ := at_T43 HR0.out x5_1 p0 q0
       obtain ⟨ad1, e1, hy0, hy1, hy2⟩ := at_T43 HR0.out ji7 p1 q1
       rw [e0] at e1
       obtain rfl := Option.some.inj e1
       subst e0
       obtain ⟨X, hX⟩ : ∃ X, rd_T43 l0 x5_1 = X := ⟨_, rfl⟩
       obtain ⟨Y, hY⟩ : ∃ Y, rd_T43 l0 ji7 = Y := ⟨_, rfl⟩
       rw [hX] at hx0 hx1 hx2
       rw [hY] at hy0 hy1 hy2
       rw [hX, hY] at H
       clear hX hY
       replace hx0 := (HB.out.cell (World.block_lt_of_cell? w _ hx0)).trans hx0
       replace hx1 := (HB.out.cell (World.block_lt_of_cell? w _ hx1)).trans hx1
       replace hx2 := (HB.out.cell (World.block_lt_of_cell? w _ hx2)).trans hx2
       replace hy0 := (HB.out.cell (World.block_lt_of_cell? w _ hy0)).trans hy0
       replace hy1 := (HB.out.cell (World.block_lt_of_cell? w _ hy1)).trans hy1
       replace hy2 := (HB.out.cell (World.block_lt_of_cell? w _ hy2)).trans hy2
       have H' := Aside0.mk H
       have HJ := Aside0.mk hji7
       clear H hji7
       have cC := fun W => cmpTick_calls X Y W
       by_cases c10 : X.f0 < Y.f0
       ·have d1 : cmpI X.f0 Y.f0 = -1 := by unfold cmpI; rw [if_pos c10]
        rw [d1] at cC
        have H := H'.out
        rw [if_pos c10] at H
        obtain rfl := Option.some.inj H
        clear H H' c10 d1
        go_wp2
        go_still_tail 10, (by kernel_rfl)
        show wpList _ _ _ _ _ (World.drew _)
        go_wp2_with (go_at_call 35; refine (cC _).mono ?_; rintro e w' ⟨rfl, hb⟩)
        go_ret
        exact ⟨rfl, below_step (below_drew1 HB.out) hb⟩
       ·have H := H'.out
        rw [if_neg c10] at H
        clear H'
        have H' := Aside0.mk H
        have d1 : 0 ≤ cmpI X.f0 Y.f0 := by unfold cmpI; rw [if_neg c10]; split <;> omega
        have d2 : decide (cmpI X.f0 Y.f0 < 0) = false := decide_eq_false (by omega)
        generalize cmpI X.f0 Y.f0 = cv at cC d2
        clear H c10 d1
        go_wp2
        go_still_tail 10, (by kernel_rfl)
        show wpList _ _ _ _ _ (World.drew _)
        go_wp2_with (go_at_call 35; refine (cC _).mono ?_; rintro e w' ⟨rfl, hb⟩)
        go_roundg k1
        case measure => have := HK1.out; omega
        case rel => exact ⟨ji7, by first | rfl | (simp only [← HJ.out]; rfl) | (simp only [← HJ.out]; simp), H', ⟨by have := HK1.out; omega⟩, ⟨below_step (below_drew1 HB.out) hb⟩⟩
      ·rw [if_neg q1] at H; cases H
     ·rw [if_neg p1] at H; cases H
    ·rw [if_neg q0] at H; cases H
   ·rw [if_neg c4] at H
    have c4b0 : decide (0 < x5_1) = false := decide_eq_false c4
    clear c4
    obtain rfl := Option.some.inj H
    go_wp2
    go_ret
    exact ⟨rfl, HB.out⟩
end Go.Proofs.Ytakafcocojjeoaa.MFnTried
