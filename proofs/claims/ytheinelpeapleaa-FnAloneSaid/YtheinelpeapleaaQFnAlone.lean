/- The law FnAlone: for every code, of drawn askers who is heard in a round was alone in its slot, and had not been heard. -/
import Derived.Test.YtheinelpeapleaaMFnAlonex7
import Derived.Test.YtheinelpeapleaaKit
namespace Go.Proofs.Ytheinelpeapleaa.Pure
set_option linter.unusedSimpArgs false
set_option linter.unusedVariables false
set_option linter.unusedSectionVars false
open Go Go.RowKit Go.Proofs.Ytheinelpeapleaa.MFnAlone Go.Proofs.YtheinelpeapleaaW.PrintWords Go.Proofs.YtheinelpeapleaaW.PrintLast Go.Proofs.Ytheinelpeapleaa.Mine

theorem in_t {a b c : Int} (h : b ≤ a) (h2 : a ≤ c) : impl_in.f a b c = some true := by
  unfold impl_in.f
  rw [if_pos (by omega)]; simp [h2]
theorem in_f {a b c : Int} (h : ¬ (b ≤ a ∧ a ≤ c)) : impl_in.f a b c = some false := by
  unfold impl_in.f
  by_cases g : a ≥ b
  · rw [if_pos g]; simp; omega
  · rw [if_neg g]
theorem l1In_t {a b c : Int} (h : b ≤ a) (h2 : a ≤ c) : spec_l1In.f a b c = some true := by
  unfold spec_l1In.f
  rw [if_pos (by omega)]; simp [h2]
theorem l1In_f {a b c : Int} (h : ¬ (b ≤ a ∧ a ≤ c)) : spec_l1In.f a b c = some false := by
  unfold spec_l1In.f
  by_cases g : a ≥ b
  · rw [if_pos g]; simp; omega
  · rw [if_neg g]
theorem l1New_ev (x0 : List Int) : ∃ h, Ev (fun k => spec_l1New.f k x0) (x0, 0, h) := by
  have key : ∀ (d : Nat) (i h : Int), 4000 - i ≤ d → 0 ≤ i → ∃ h', Ev (fun k => spec_l1New.l0 k x0 h i) (x0, 0, h') := by
    intro d
    induction d with
    | zero =>
      intro i h hd h0
      refine ⟨h, ev_unroll ?_⟩
      by_cases hlt : i < (x0.length : Int)
      · simp (disch := omega) only [spec_l1New.l0, ↓if_pos, ↓if_neg, if_pos, if_neg, ↓reduceIte, w64, in_t, in_f, l1In_t, l1In_f, Option.bind_some, Bool.not_true, Bool.not_false, Bool.false_eq_true, tmod_nonneg, tdiv_nonneg]
        exact Ev.now _
      · simp (disch := omega) only [spec_l1New.l0, ↓if_pos, ↓if_neg, if_pos, if_neg, ↓reduceIte, w64, in_t, in_f, l1In_t, l1In_f, Option.bind_some, Bool.not_true, Bool.not_false, Bool.false_eq_true, tmod_nonneg, tdiv_nonneg]
        exact Ev.now _
    | succ d ih =>
      intro i h hd h0
      by_cases hlt : i < (x0.length : Int)
      · by_cases h4 : i < 4000
        · obtain ⟨h', p⟩ := ih (i + 1) (Go.bits .and .i64 (wrap64 ((wrap64 ((wrap64 (h * 131)) + (wrap64 (rd x0 i)))) + 7)) 1073741823) (by omega) (by omega)
          refine ⟨h', ev_unroll ?_⟩
          simp only [spec_l1New.l0, if_pos hlt, if_pos h4, if_pos h0]
          rw [w64 (x := i + 1) (by omega) (by omega)]
          exact p
        · refine ⟨h, ev_unroll ?_⟩
          simp (disch := omega) only [spec_l1New.l0, ↓if_pos, ↓if_neg, if_pos, if_neg, ↓reduceIte, w64, in_t, in_f, l1In_t, l1In_f, Option.bind_some, Bool.not_true, Bool.not_false, Bool.false_eq_true, tmod_nonneg, tdiv_nonneg]
          exact Ev.now _
      · refine ⟨h, ev_unroll ?_⟩
        simp (disch := omega) only [spec_l1New.l0, ↓if_pos, ↓if_neg, if_pos, if_neg, ↓reduceIte, w64, in_t, in_f, l1In_t, l1In_f, Option.bind_some, Bool.not_true, Bool.not_false, Bool.false_eq_true, tmod_nonneg, tdiv_nonneg]
        exact Ev.now _
  obtain ⟨h', p⟩ := key 4000 0 (wrap64 (71933 + (x0.length : Int))) (by omega) (by omega)
  exact ⟨h', p⟩
theorem l1Byte_some (b : List Int) (i h : Int) (hb : b.length ≤ 1048576) (h0 : 0 ≤ i) (h1 : i ≤ 1048576) :
    ∃ v i' h', spec_l1Byte.f b i h = some (v, i', h') ∧ 0 ≤ v ∧ v ≤ 255 ∧ 0 ≤ i' ∧ i' ≤ 1048576 := by
  unfold spec_l1Byte.f
  by_cases hlt : i < (b.length : Int)
  · rw [if_pos hlt, if_pos h0, w64 (x := i + 1) (by omega) (by omega)]
    refine ⟨_, _, _, rfl, ?_, ?_, by omega, by omega⟩
    · rw [and255]; omega
    · rw [and255]; omega
  · rw [if_neg hlt]
    refine ⟨_, _, _, rfl, ?_, ?_, h0, h1⟩
    · rw [and255]; omega
    · rw [and255]; omega
theorem l1Below_some (b : List Int) (i h n : Int) (hb : b.length ≤ 1048576) (h0 : 0 ≤ i) (h1 : i ≤ 1048576) :
    ∃ v i' h', spec_l1Below.f b i h n = some (v, i', h') ∧ 0 ≤ v ∧ (0 < n → v < n) ∧ (n ≤ 0 → v = 0) ∧ 0 ≤ i' ∧ i' ≤ 1048576 := by
  unfold spec_l1Below.f
  by_cases hn : n ≤ 0
  · rw [if_pos hn]
    exact ⟨0, i, h, rfl, by omega, by omega, fun _ => rfl, h0, h1⟩
  rw [if_neg hn]
  by_cases hm : n ≤ 256
  · rw [if_pos hm]
    obtain ⟨v, i1, s1, e1, p1, p2, p3, p4⟩ := l1Byte_some b i h hb h0 h1
    rw [e1]
    simp only [Option.bind_some]
    rw [if_neg (by omega), tmod_nonneg p1]
    exact ⟨_, _, _, rfl, Int.emod_nonneg _ (by omega), fun _ => Int.emod_lt_of_pos _ (by omega), fun h => absurd h hn, p3, p4⟩
  · rw [if_neg hm]
    obtain ⟨v1, i1, s1, e1, p1, p2, p3, p4⟩ := l1Byte_some b i h hb h0 h1
    obtain ⟨v2, i2, s2, e2, q1, q2, q3, q4⟩ := l1Byte_some b i1 s1 hb p3 p4
    obtain ⟨v3, i3, s3, e3, r1, r2, r3, r4⟩ := l1Byte_some b i2 s2 hb q3 q4
    obtain ⟨v4, i4, s4, e4, t1, t2, t3, t4⟩ := l1Byte_some b i3 s3 hb r3 r4
    rw [e1]
    simp only [Option.bind_some]
    rw [e2]
    simp only [Option.bind_some]
    rw [e3]
    simp only [Option.bind_some]
    rw [e4]
    simp only [Option.bind_some]
    rw [if_neg (by omega)]
    refine ⟨_, _, _, rfl, ?_, ?_, fun h => absurd h hn, t3, t4⟩
    · simp (disch := omega) only [w64]
      rw [tmod_nonneg (by omega)]
      exact Int.emod_nonneg _ (by omega)
    · intro _
      simp (disch := omega) only [w64]
      rw [tmod_nonneg (by omega)]
      exact Int.emod_lt_of_pos _ (by omega)
theorem l1PickInt_some (b : List Int) (i h : Int) (l : List Int) (hl : 0 < l.length) (hb : b.length ≤ 1048576) (h0 : 0 ≤ i) (h1 : i ≤ 1048576) :
    ∃ v i' h', spec_l1PickInt.f b i h l = some (v, i', h') ∧ v ∈ l ∧ 0 ≤ i' ∧ i' ≤ 1048576 := by
  unfold spec_l1PickInt.f
  obtain ⟨v, i1, s1, e1, p1, p2, p3, p4, p5⟩ := l1Below_some b i h (l.length : Int) hb h0 h1
  rw [e1]
  simp only [Option.bind_some]
  rw [if_pos p1, if_pos (p2 (by omega))]
  exact ⟨_, _, _, rfl, rd_mem p1 (p2 (by omega)), p4, p5⟩
theorem sameInts_ev (x0 : List Int) (x1 : List Int) (hn : x0.length ≤ 1048576) : Ev (fun k => laws_sameInts.f k x0 x1) (decide (x0 = x1)) := by
  by_cases hl : x0.length = x1.length
  · have key : ∀ (d : Nat) (i : Nat), x0.length - i = d → i ≤ x0.length → Ev (fun k => laws_sameInts.l0 k x0 x1 (i : Int)) (decide (x0.drop i = x1.drop i)) := by
      intro d
      induction d with
      | zero =>
        intro i hd hi
        rw [List.drop_eq_nil_of_le (show x0.length ≤ i by omega), List.drop_eq_nil_of_le (show x1.length ≤ i by omega)]
        refine ev_unroll ?_
        simp (disch := omega) only [laws_sameInts.l0, ↓if_neg, decide_true]
        exact Ev.now _
      | succ d ih =>
        intro i hd hi
        have h := ih (i + 1) (by omega) (by omega)
        rw [drop_rd (show i < x0.length by omega), drop_rd (show i < x1.length by omega)]
        by_cases he : rd x0 (i : Int) = rd x1 (i : Int)
        · refine ev_unroll ?_
          simp (disch := omega) only [laws_sameInts.l0, ↓if_pos, w64]
          simpa [he] using h
        · refine ev_unroll ?_
          simp (disch := omega) only [laws_sameInts.l0, ↓if_pos, ↓if_neg]
          rw [decide_eq_false (by intro h2; injection h2 with h3 h4; exact he h3)]
          exact Ev.now _
    have h := key _ 0 rfl (by omega)
    simp (disch := omega) only [laws_sameInts.f, ↓if_pos]
    simpa using h
  · have he : x0 ≠ x1 := fun h => hl (by rw [h])
    simp (disch := omega) only [laws_sameInts.f, ↓if_neg]
    rw [decide_eq_false he]
    exact Ev.now _
def CoinsOk (l : List Int) : Prop := ∀ c ∈ l, 0 ≤ c ∧ c ≤ 1000
def AskOk (A : List S36) : Prop := ∀ x ∈ A, CoinsOk x.f0
theorem rd36_mem {l : List S36} {i : Int} (h0 : 0 ≤ i) (h1 : i < (l.length : Int)) : rd_T36 l i ∈ l := by
  have h : i.toNat < l.length := by omega
  have e : rd_T36 l i = l[i.toNat] := by simp [rd_T36, h]
  rw [e]; exact List.getElem_mem h
theorem drop36 (l : List S36) (i : Nat) (h : i < l.length) : l.drop i = rd_T36 l (i : Int) :: l.drop (i + 1) := by
  rw [show rd_T36 l (i : Int) = l[i] by simp [rd_T36, h], List.drop_eq_getElem_cons h]
/-- In which slot asker j asks in round r; -1: in none. -/
def slotOf (A : List S36) (s : Int) (h : List Int) (r : Int) (j : Nat) : Int := if rd h (j : Int) < 0 ∧ r < ((rd_T36 A (j : Int)).f0.length : Int) then (rd (rd_T36 A (j : Int)).f0 r) % s else -1
def cntS (A : List S36) (s : Int) (h : List Int) (r : Int) (c : Int) : Nat → Int
  | 0 => 0
  | i + 1 => cntS A s h r c i + (if slotOf A s h r i = c then 1 else 0)
def nxt (A : List S36) (s : Int) (h : List Int) (r : Int) (j : Nat) : Int := if 0 ≤ slotOf A s h r j ∧ cntS A s h r (slotOf A s h r j) A.length = 1 then r else rd h (j : Int)
def rnd (A : List S36) (s : Int) (h : List Int) (r : Int) : List Int := (List.range A.length).map (nxt A s h r)
def heardAt (A : List S36) (s : Int) : Nat → List Int
  | 0 => List.replicate A.length (-1)
  | r + 1 => rnd A s (heardAt A s r) (r : Int)
theorem rnd_length (A : List S36) (s : Int) (h : List Int) (r : Int) : (rnd A s h r).length = A.length := by simp [rnd]
theorem heardAt_length (A : List S36) (s : Int) (r : Nat) : (heardAt A s r).length = A.length := by
  cases r with
  | zero => simp [heardAt]
  | succ r => simp [heardAt, rnd]
theorem rd_rangeMap (f : Nat → Int) (n j : Nat) (h : j < n) : rd ((List.range n).map f) (j : Int) = f j := by simp [rd, h]
theorem rd_rnd (A : List S36) (s : Int) (h : List Int) (r : Int) (j : Nat) (hj : j < A.length) : rd (rnd A s h r) (j : Int) = nxt A s h r j := rd_rangeMap _ _ _ hj
theorem cnt_bd (A : List S36) (s : Int) (h : List Int) (r c : Int) : ∀ i : Nat, 0 ≤ cntS A s h r c i ∧ cntS A s h r c i ≤ i := by
  intro i
  induction i with
  | zero => exact ⟨Int.le_refl _, Int.le_refl _⟩
  | succ i ih => simp only [cntS]; split <;> omega
theorem slot_bd (A : List S36) (s : Int) (h : List Int) (r : Int) (hs : 1 ≤ s) (j : Nat) : slotOf A s h r j = -1 ∨ (0 ≤ slotOf A s h r j ∧ slotOf A s h r j < s) := by
  unfold slotOf
  split
  · exact .inr ⟨Int.emod_nonneg _ (by omega), Int.emod_lt_of_pos _ (by omega)⟩
  · exact .inl rfl
theorem set_range (f : Nat → Int) (n i : Nat) (hi : i < n) (v : Int) : ((List.range n).map f).set i v = (List.range n).map (fun j => if j = i then v else f j) := by
  refine List.ext_getElem (by simp) (fun j h1 h2 => ?_)
  simp only [List.getElem_set, List.getElem_map, List.getElem_range]
  by_cases e : i = j
  · subst e; simp
  · rw [if_neg e, if_neg (fun h => e h.symm)]
theorem map_range_congr {α : Type} (f g : Nat → α) (n : Nat) (h : ∀ j, j < n → f j = g j) : (List.range n).map f = (List.range n).map g := List.map_congr_left (fun j hj => h j (by simpa using hj))
section
variable (A : List S36) (s : Int) (hA : 1 ≤ A.length ∧ A.length ≤ 40) (hs : 1 ≤ s ∧ s ≤ 16) (hok : AskOk A) (hco : ∀ x ∈ A, x.f0.length ≤ 1048576) (h : List Int) (hh : h.length = A.length) (r : Int) (hr : 0 ≤ r ∧ r ≤ 60)
include hA hs hok hco hh hr
/-- What an asker's coin leads to. -/
theorem coin_at (i : Nat) (hi : i < A.length) (c1 : rd h (i : Int) < 0) (c2 : r < ((rd_T36 A (i : Int)).f0.length : Int)) : Int.tmod (rd (rd_T36 A (i : Int)).f0 r) s = slotOf A s h r i ∧ 0 ≤ slotOf A s h r i ∧ slotOf A s h r i < s := by
  have hc := hok _ (rd36_mem (l := A) (i := (i : Int)) (by omega) (by omega)) _ (rd_mem (xs := (rd_T36 A (i : Int)).f0) (i := r) (by omega) c2)
  have e : slotOf A s h r i = (rd (rd_T36 A (i : Int)).f0 r) % s := by unfold slotOf; rw [if_pos ⟨c1, c2⟩]
  rw [e, tmod_nonneg hc.1]
  exact ⟨rfl, Int.emod_nonneg _ (by omega), Int.emod_lt_of_pos _ (by omega)⟩
/-- The reference's second pass. -/
theorem spec_l4 (R : Int) (out : List Int × Bool) (H : Ev (fun k => spec_Contend.l2 k A s R (rnd A s h r) (r + 1)) out) : ∀ (d i : Nat), A.length - i = d → i ≤ A.length →
    Ev (fun k => spec_Contend.l4 k A s R ((List.range A.length).map (fun (j : Nat) => if j < i then nxt A s h r j else rd h (j : Int))) r ((List.range A.length).map (slotOf A s h r)) ((List.range s.toNat).map (fun (c : Nat) => cntS A s h r (c : Int) A.length)) (i : Int)) out := by
  intro d
  induction d with
  | zero =>
    intro i hd hi
    have ew : wrap64 (r + 1) = r + 1 := w64 (by omega) (by omega)
    refine ev_unroll ?_
    simp only [spec_Contend.l4, if_neg (show ¬ (i : Int) < (A.length : Int) by omega), ew]
    rw [map_range_congr (fun (j : Nat) => if j < i then nxt A s h r j else rd h (j : Int)) (nxt A s h r) A.length (fun j hj => if_pos (by omega))]
    exact H
  | succ d ih =>
    intro i hd hi
    have hi2 : i < A.length := by omega
    have p := ih (i + 1) (by omega) (by omega)
    have ew := Aside0.mk (show ((i + 1 : Nat) : Int) = wrap64 ((i : Int) + 1) by rw [w64 (by omega) (by omega)]; omega)
    rw [ew.out] at p
    have n1 : (i : Int) < (A.length : Int) := by omega
    have n2 : (0 : Int) ≤ (i : Int) := by omega
    have n3 : (i : Int) < (((List.range A.length).map (slotOf A s h r)).length : Int) := by simpa using hi2
    have e1 := rd_rangeMap (slotOf A s h r) A.length i hi2
    have hb := slot_bd A s h r hs.1 i
    refine ev_unroll ?_
    simp only [spec_Contend.l4, if_pos n1, if_pos n2, if_pos n3, e1]
    by_cases c1 : slotOf A s h r i ≥ 0
    · have hb2 : slotOf A s h r i < s := by omega
      have n4 : slotOf A s h r i < (((List.range s.toNat).map (fun (c : Nat) => cntS A s h r (c : Int) A.length)).length : Int) := by simp; omega
      have e2 : rd ((List.range s.toNat).map (fun (c : Nat) => cntS A s h r (c : Int) A.length)) (slotOf A s h r i) = cntS A s h r (slotOf A s h r i) A.length := by
        have := rd_rangeMap (fun (c : Nat) => cntS A s h r (c : Int) A.length) s.toNat (slotOf A s h r i).toNat (by omega)
        rw [Int.toNat_of_nonneg c1] at this
        exact this
      simp only [if_pos c1, if_pos (show 0 ≤ slotOf A s h r i from c1), if_pos n4, e2]
      by_cases c2 : cntS A s h r (slotOf A s h r i) A.length = 1
      · have n5 : (i : Int) < (((List.range A.length).map (fun (j : Nat) => if j < i then nxt A s h r j else rd h (j : Int))).length : Int) := by simpa using hi2
        simp only [if_pos c2, if_pos n5, Int.toNat_natCast]
        rw [set_range _ _ _ hi2]
        rw [map_range_congr _ (fun (j : Nat) => if j < i + 1 then nxt A s h r j else rd h (j : Int)) A.length (fun j hj => by
          by_cases e : j = i
          · subst e; rw [if_pos rfl, if_pos (by omega)]; unfold nxt; rw [if_pos ⟨c1, c2⟩]
          · rw [if_neg e]
            by_cases g : j < i
            · rw [if_pos g, if_pos (by omega)]
            · rw [if_neg g, if_neg (by omega)])]
        exact p
      · simp only [if_neg c2]
        rw [map_range_congr _ (fun (j : Nat) => if j < i + 1 then nxt A s h r j else rd h (j : Int)) A.length (fun j hj => by
          by_cases e : j = i
          · subst e; rw [if_neg (by omega), if_pos (by omega)]; unfold nxt; rw [if_neg (fun g => c2 g.2)]
          · by_cases g : j < i
            · rw [if_pos g, if_pos (by omega)]
            · rw [if_neg g, if_neg (by omega)])]
        exact p
    · simp only [if_neg c1]
      rw [map_range_congr _ (fun (j : Nat) => if j < i + 1 then nxt A s h r j else rd h (j : Int)) A.length (fun j hj => by
          by_cases e : j = i
          · subst e; rw [if_neg (by omega), if_pos (by omega)]; unfold nxt; rw [if_neg (fun g => c1 g.1)]
          · by_cases g : j < i
            · rw [if_pos g, if_pos (by omega)]
            · rw [if_neg g, if_neg (by omega)])]
      exact p
theorem spec_l3 (R : Int) (out : List Int × Bool) (H : Ev (fun k => spec_Contend.l2 k A s R (rnd A s h r) (r + 1)) out) : ∀ (d i : Nat), A.length - i = d → i ≤ A.length →
    Ev (fun k => spec_Contend.l3 k A s R h r ((List.range i).map (slotOf A s h r)) ((List.range s.toNat).map (fun (c : Nat) => cntS A s h r (c : Int) i)) (i : Int)) out := by
  intro d
  induction d with
  | zero =>
    intro i hd hi
    have e : i = A.length := by omega
    subst e
    have p := spec_l4 A s hA hs hok hco h hh r hr R out H A.length 0 (by omega) (Nat.zero_le _)
    rw [map_range_congr (fun (j : Nat) => if j < 0 then nxt A s h r j else rd h (j : Int)) (fun (j : Nat) => rd h (j : Int)) A.length (fun j hj => if_neg (by omega))] at p
    have eh : (List.range A.length).map (fun (j : Nat) => rd h (j : Int)) = h := by
      refine List.ext_getElem (by simp [hh]) (fun j h1 h2 => ?_)
      simp [rd, h2]
    rw [eh] at p
    refine ev_unroll ?_
    simp only [spec_Contend.l3, if_neg (show ¬ (A.length : Int) < (A.length : Int) by omega)]
    exact p
  | succ d ih =>
    intro i hd hi
    have hi2 : i < A.length := by omega
    have p := ih (i + 1) (by omega) (by omega)
    have ew := Aside0.mk (show ((i + 1 : Nat) : Int) = wrap64 ((i : Int) + 1) by rw [w64 (by omega) (by omega)]; omega)
    rw [ew.out, List.range_succ, List.map_append, List.map_singleton] at p
    have n1 : (i : Int) < (A.length : Int) := by omega
    have n2 : (0 : Int) ≤ (i : Int) := by omega
    have n3 : (i : Int) < (h.length : Int) := by omega
    have n4 : ((List.range i).map (slotOf A s h r)).length < 17592186044416 := by simp; omega
    refine ev_unroll ?_
    simp only [spec_Contend.l3, if_pos n1, if_pos n2, if_pos n3]
    have none_ : slotOf A s h r i = -1 → (List.range s.toNat).map (fun (c : Nat) => cntS A s h r (c : Int) (i + 1)) = (List.range s.toNat).map (fun (c : Nat) => cntS A s h r (c : Int) i) := fun e => map_range_congr _ _ _ (fun c hc => by simp only [cntS]; rw [e, if_neg (by omega), Int.add_zero])
    by_cases c1 : rd h (i : Int) < 0
    · by_cases c2 : r < ((rd_T36 A (i : Int)).f0.length : Int)
      · obtain ⟨q1, q2, q3⟩ := coin_at A s hA hs hok hco h hh r hr i hi2 c1 c2
        have n5 : slotOf A s h r i < (((List.range s.toNat).map (fun (c : Nat) => cntS A s h r (c : Int) i)).length : Int) := by simp; omega
        have e2 : rd ((List.range s.toNat).map (fun (c : Nat) => cntS A s h r (c : Int) i)) (slotOf A s h r i) = cntS A s h r (slotOf A s h r i) i := by
          have := rd_rangeMap (fun (c : Nat) => cntS A s h r (c : Int) i) s.toNat (slotOf A s h r i).toNat (by omega)
          rw [Int.toNat_of_nonneg q2] at this
          exact this
        have hb := cnt_bd A s h r (slotOf A s h r i) i
        have ew2 := Aside0.mk (show wrap64 (cntS A s h r (slotOf A s h r i) i + 1) = cntS A s h r (slotOf A s h r i) i + 1 from w64 (by omega) (by omega))
        simp only [if_pos c1, if_pos c2, if_pos hr.1, if_neg (show ¬ s = 0 by omega), q1, if_pos q2, if_pos n5, if_pos n4, e2, ew2.out]
        rw [set_range _ _ _ (by omega)]
        rw [map_range_congr _ (fun (c : Nat) => cntS A s h r (c : Int) (i + 1)) s.toNat (fun c hc => by
          simp only [cntS]
          by_cases e : c = (slotOf A s h r i).toNat
          · subst e; rw [if_pos rfl, Int.toNat_of_nonneg q2, if_pos rfl]
          · rw [if_neg e, if_neg (fun g => e (by omega)), Int.add_zero])]
        exact p
      · have e : slotOf A s h r i = -1 := by unfold slotOf; rw [if_neg (fun g => c2 g.2)]
        rw [none_ e, e] at p
        simp only [if_pos c1, if_neg c2, if_pos n4]
        exact p
    · have e : slotOf A s h r i = -1 := by unfold slotOf; rw [if_neg (fun g => c1 g.1)]
      rw [none_ e, e] at p
      simp only [if_neg c1, if_pos n4]
      exact p
/-- Who is in a slot, of the first i. -/
def rowS (i : Nat) (c : Int) : List Int := ((List.range i).filter (fun j => slotOf A s h r j == c)).map (fun (j : Nat) => (j : Int))
omit hA hs hok hco hh hr in
theorem row_succ (i : Nat) (c : Int) : rowS A s h r (i + 1) c = rowS A s h r i c ++ (if slotOf A s h r i = c then [(i : Int)] else []) := by
  unfold rowS
  rw [List.range_succ, List.filter_append, List.map_append]
  congr 1
  by_cases e : slotOf A s h r i = c
  · simp [e]
  · simp [e]
omit hA hs hok hco hh hr in
theorem row_length (c : Int) : ∀ i : Nat, ((rowS A s h r i c).length : Int) = cntS A s h r c i := by
  intro i
  induction i with
  | zero => rfl
  | succ i ih =>
    rw [row_succ, List.length_append]
    simp only [cntS]
    split <;> simp <;> omega
omit hA hs hok hco hh hr in
theorem row_mem (i : Nat) (c x : Int) : x ∈ rowS A s h r i c ↔ ∃ j : Nat, j < i ∧ slotOf A s h r j = c ∧ x = (j : Int) := by
  unfold rowS
  simp only [List.mem_map, List.mem_filter, List.mem_range, beq_iff_eq]
  constructor
  · rintro ⟨j, ⟨h1, h2⟩, rfl⟩; exact ⟨j, h1, h2, rfl⟩
  · rintro ⟨j, h1, h2, rfl⟩; exact ⟨j, ⟨h1, h2⟩, rfl⟩
omit hA hs hok hco hh hr in
theorem rdL_rows (i c : Nat) (hc : c < 16) : rd_L2 ((List.range 16).map (fun (c : Nat) => rowS A s h r i (c : Int))) (c : Int) = rowS A s h r i (c : Int) := by simp [rd_L2, hc]
/-- Heard in the slots ahead of c. -/
def hTo (c : Int) (j : Nat) : Int := if (0 ≤ slotOf A s h r j ∧ slotOf A s h r j < c) ∧ cntS A s h r (slotOf A s h r j) A.length = 1 then r else rd h (j : Int)
theorem impl_l4 (R : Int) (out : List Int × Bool) (H : Ev (fun k => impl_Contend.l2 k A s (rnd A s h r) R (r + 1)) out) : ∀ (d c : Nat), 16 - c = d → c ≤ 16 →
    Ev (fun k => impl_Contend.l4 k A s ((List.range A.length).map (hTo A s h r (c : Int))) r R r ((List.range 16).map (fun (c : Nat) => rowS A s h r A.length (c : Int))) (c : Int)) out := by
  intro d
  induction d with
  | zero =>
    intro c hd hc
    have ec : c = 16 := by omega
    subst ec
    have ew : wrap64 (r + 1) = r + 1 := w64 (by omega) (by omega)
    refine ev_unroll ?_
    simp only [impl_Contend.l4, if_neg (show ¬ ((16 : Nat) : Int) < 16 by omega), ew]
    rw [map_range_congr (hTo A s h r ((16 : Nat) : Int)) (nxt A s h r) A.length (fun j hj => by
      have hb := slot_bd A s h r hs.1 j
      unfold hTo nxt
      by_cases g : 0 ≤ slotOf A s h r j ∧ cntS A s h r (slotOf A s h r j) A.length = 1
      · rw [if_pos g, if_pos ⟨⟨g.1, by omega⟩, g.2⟩]
      · rw [if_neg g, if_neg (fun q => g ⟨q.1.1, q.2⟩)])]
    exact H
  | succ d ih =>
    intro c hd hc
    have hc2 : c < 16 := by omega
    have p := ih (c + 1) (by omega) (by omega)
    have ew := Aside0.mk (show ((c + 1 : Nat) : Int) = wrap64 ((c : Int) + 1) by rw [w64 (by omega) (by omega)]; omega)
    have n1 : (c : Int) < 16 := by omega
    have n2 : (0 : Int) ≤ (c : Int) := by omega
    have n3 : (c : Int) < (((List.range 16).map (fun (c : Nat) => rowS A s h r A.length (c : Int))).length : Int) := by simp; omega
    have er := rdL_rows A s h r A.length c hc2
    have el := row_length A s h r (c : Int) A.length
    refine ev_unroll ?_
    simp only [impl_Contend.l4, if_pos n1, if_pos n2, if_pos n3, er]
    by_cases c1 : ((rowS A s h r A.length (c : Int)).length : Int) = 1
    · obtain ⟨x, hx⟩ : ∃ x, rowS A s h r A.length (c : Int) = [x] := List.length_eq_one_iff.mp (by omega)
      have hm : ∀ y, y ∈ [x] ↔ ∃ j : Nat, j < A.length ∧ slotOf A s h r j = (c : Int) ∧ y = (j : Int) := fun y => by rw [← hx]; exact row_mem A s h r A.length (c : Int) y
      obtain ⟨j0, hj0, hsl, rfl⟩ := (hm x).mp (by simp)
      have uniq : ∀ j : Nat, j < A.length → slotOf A s h r j = (c : Int) → j = j0 := fun j hj hjs => by
        have := (hm (j : Int)).mpr ⟨j, hj, hjs, rfl⟩
        simp only [List.mem_singleton] at this
        omega
      have c1' : cntS A s h r (c : Int) A.length = 1 := by rw [← el]; exact c1
      have e0 : rd ([(j0 : Int)] : List Int) 0 = (j0 : Int) := rfl
      have n4 : (j0 : Int) < (((List.range A.length).map (hTo A s h r (c : Int))).length : Int) := by simpa using hj0
      simp only [hx, List.length_singleton, show (((1 : Nat) : Int) = 1) from rfl, ↓reduceIte, if_pos (show (0 : Int) < ((1 : Nat) : Int) by decide), e0, if_pos (show (0 : Int) ≤ (j0 : Int) by omega), if_pos n4, Int.toNat_natCast]
      rw [ew.out] at p
      rw [set_range _ _ _ hj0]
      rw [map_range_congr _ (hTo A s h r (wrap64 ((c : Int) + 1))) A.length (fun j hj => by
        rw [← ew.out]
        by_cases e : j = j0
        · subst e
          rw [if_pos rfl]
          unfold hTo
          rw [hsl, if_pos ⟨⟨by omega, by omega⟩, c1'⟩]
        · rw [if_neg e]
          have hne : slotOf A s h r j ≠ (c : Int) := fun g => e (uniq j hj g)
          unfold hTo
          by_cases g : (0 ≤ slotOf A s h r j ∧ slotOf A s h r j < (c : Int)) ∧ cntS A s h r (slotOf A s h r j) A.length = 1
          · rw [if_pos g, if_pos ⟨⟨g.1.1, by omega⟩, g.2⟩]
          · rw [if_neg g, if_neg (fun q => g ⟨⟨q.1.1, by omega⟩, q.2⟩)])]
      exact p
    · simp only [if_neg c1]
      rw [ew.out] at p
      rw [map_range_congr _ (hTo A s h r (wrap64 ((c : Int) + 1))) A.length (fun j hj => by
        rw [← ew.out]
        unfold hTo
        by_cases g : (0 ≤ slotOf A s h r j ∧ slotOf A s h r j < (c : Int)) ∧ cntS A s h r (slotOf A s h r j) A.length = 1
        · rw [if_pos g, if_pos ⟨⟨g.1.1, by omega⟩, g.2⟩]
        · rw [if_neg g, if_neg (fun q => by
            by_cases e : slotOf A s h r j = (c : Int)
            · exact c1 (by rw [el, ← e]; exact q.2)
            · exact g ⟨⟨q.1.1, by omega⟩, q.2⟩)])]
      exact p
theorem impl_l3 (R : Int) (out : List Int × Bool) (H : Ev (fun k => impl_Contend.l2 k A s (rnd A s h r) R (r + 1)) out) : ∀ (d i : Nat), A.length - i = d → i ≤ A.length →
    Ev (fun k => impl_Contend.l3 k A s h r ((List.range 16).map (fun (c : Nat) => rowS A s h r i (c : Int))) R r A (A.length : Int) (i : Int)) out := by
  intro d
  induction d with
  | zero =>
    intro i hd hi
    have e : i = A.length := by omega
    subst e
    have p := impl_l4 A s hA hs hok hco h hh r hr R out H 16 0 (by omega) (Nat.zero_le _)
    rw [map_range_congr (hTo A s h r ((0 : Nat) : Int)) (fun (j : Nat) => rd h (j : Int)) A.length (fun j hj => by unfold hTo; rw [if_neg (fun q => by have := q.1.2; have := q.1.1; omega)])] at p
    have eh : (List.range A.length).map (fun (j : Nat) => rd h (j : Int)) = h := by
      refine List.ext_getElem (by simp [hh]) (fun j h1 h2 => ?_)
      simp [rd, h2]
    rw [eh] at p
    refine ev_unroll ?_
    simp only [impl_Contend.l3, if_neg (show ¬ (A.length : Int) < (A.length : Int) by omega)]
    exact p
  | succ d ih =>
    intro i hd hi
    have hi2 : i < A.length := by omega
    have p := ih (i + 1) (by omega) (by omega)
    have ew := Aside0.mk (show ((i + 1 : Nat) : Int) = wrap64 ((i : Int) + 1) by rw [w64 (by omega) (by omega)]; omega)
    rw [ew.out] at p
    have n1 : (i : Int) < (A.length : Int) := by omega
    have n2 : (0 : Int) ≤ (i : Int) := by omega
    have n3 : (i : Int) < (h.length : Int) := by omega
    refine ev_unroll ?_
    simp only [impl_Contend.l3, if_pos n1, if_pos n2, if_pos n3]
    have none_ : slotOf A s h r i = -1 → (List.range 16).map (fun (c : Nat) => rowS A s h r (i + 1) (c : Int)) = (List.range 16).map (fun (c : Nat) => rowS A s h r i (c : Int)) := fun e => map_range_congr _ _ _ (fun c hc => by rw [row_succ, e, if_neg (by omega), List.append_nil])
    by_cases c1 : rd h (i : Int) < 0
    · by_cases c2 : r < ((rd_T36 A (i : Int)).f0.length : Int)
      · obtain ⟨q1, q2, q3⟩ := coin_at A s hA hs hok hco h hh r hr i hi2 c1 c2
        have n5 : slotOf A s h r i < (((List.range 16).map (fun (c : Nat) => rowS A s h r i (c : Int))).length : Int) := by simp; omega
        have er := rdL_rows A s h r i (slotOf A s h r i).toNat (by omega)
        rw [Int.toNat_of_nonneg q2] at er
        have el := row_length A s h r (slotOf A s h r i) i
        have hb := cnt_bd A s h r (slotOf A s h r i) i
        have n6 : (rowS A s h r i (slotOf A s h r i)).length < 17592186044416 := by omega
        simp only [if_pos c1, if_pos c2, if_pos hr.1, if_neg (show ¬ s = 0 by omega), q1, if_pos q2, if_pos n5, er, if_pos n6]
        have es : ((List.range 16).map (fun (c : Nat) => rowS A s h r i (c : Int))).set (slotOf A s h r i).toNat (rowS A s h r i (slotOf A s h r i) ++ [(i : Int)]) = (List.range 16).map (fun (c : Nat) => rowS A s h r (i + 1) (c : Int)) := by
          refine List.ext_getElem (by simp) (fun j h1 h2 => ?_)
          simp only [List.getElem_set, List.getElem_map, List.getElem_range]
          rw [row_succ]
          by_cases e : (slotOf A s h r i).toNat = j
          · subst e; rw [if_pos rfl, Int.toNat_of_nonneg q2, if_pos rfl]
          · rw [if_neg e, if_neg (fun g => e (by omega)), List.append_nil]
        rw [es]
        exact p
      · have e : slotOf A s h r i = -1 := by unfold slotOf; rw [if_neg (fun g => c2 g.2)]
        rw [none_ e] at p
        simp only [if_pos c1, if_neg c2]
        exact p
    · have e : slotOf A s h r i = -1 := by unfold slotOf; rw [if_neg (fun g => c1 g.1)]
      rw [none_ e] at p
      simp only [if_neg c1]
      exact p
end
section
variable (A : List S36) (s : Int) (hA : 1 ≤ A.length ∧ A.length ≤ 40) (hs : 1 ≤ s ∧ s ≤ 16) (hok : AskOk A) (hco : ∀ x ∈ A, x.f0.length ≤ 1048576)
include hA hs hok hco
theorem rounds_both (R : Nat) (hR : R ≤ 60) : ∀ (d r : Nat), R - r = d → r ≤ R → Ev (fun k => spec_Contend.l2 k A s (R : Int) (heardAt A s r) (r : Int)) (heardAt A s R, true) ∧ Ev (fun k => impl_Contend.l2 k A s (heardAt A s r) (R : Int) (r : Int)) (heardAt A s R, true) := by
  intro d
  induction d with
  | zero =>
    intro r hd hr
    have e : r = R := by omega
    subst e
    refine ⟨ev_unroll ?_, ev_unroll ?_⟩
    · simp only [spec_Contend.l2, if_neg (show ¬ (r : Int) < (r : Int) by omega)]
      exact Ev.now _
    · simp only [impl_Contend.l2, if_neg (show ¬ (r : Int) < (r : Int) by omega)]
      exact Ev.now _
  | succ d ih =>
    intro r hd hr
    obtain ⟨p, q⟩ := ih (r + 1) (by omega) (by omega)
    have e : ((r + 1 : Nat) : Int) = (r : Int) + 1 := by omega
    rw [e] at p q
    have hl := heardAt_length A s r
    have p2 := spec_l3 A s hA hs hok hco (heardAt A s r) hl (r : Int) (by omega) (R : Int) _ p A.length 0 (by omega) (Nat.zero_le _)
    have q2 := impl_l3 A s hA hs hok hco (heardAt A s r) hl (r : Int) (by omega) (R : Int) _ q A.length 0 (by omega) (Nat.zero_le _)
    have z1 : (List.range s.toNat).map (fun (c : Nat) => cntS A s (heardAt A s r) (r : Int) (c : Int) 0) = List.replicate s.toNat 0 := by
      refine List.ext_getElem (by simp) (fun j h1 h2 => ?_)
      simp [cntS]
    have z2 : (List.range 16).map (fun (c : Nat) => rowS A s (heardAt A s r) (r : Int) 0 (c : Int)) = List.replicate 16 [] := by
      simp only [rowS, List.range_zero, List.filter_nil, List.map_nil]
      rfl
    rw [z1] at p2
    rw [z2] at q2
    refine ⟨ev_unroll ?_, ev_unroll ?_⟩
    · simp only [spec_Contend.l2, if_pos (show (r : Int) < (R : Int) by omega), if_pos (show 0 ≤ s by omega), if_pos (show s.toNat ≤ 35184372088832 by omega)]
      simpa using p2
    · simp only [impl_Contend.l2, if_pos (show (r : Int) < (R : Int) by omega), if_pos (show 16 ≤ 11728124029610 by decide)]
      exact q2
end
/-- The tests of the coins. -/
theorem coins_both (A : List S36) (s R : Int) (hA : A.length ≤ 40) (hco : ∀ x ∈ A, x.f0.length ≤ 1048576) (o1 o2 : List Int × Bool) :
    ∀ (d i : Nat), A.length - i = d → i ≤ A.length →
    ((∀ x ∈ A.drop i, CoinsOk x.f0) → Ev (fun k => spec_Contend.l2 k A s R (List.replicate A.length (-1)) 0) o1 → Ev (fun k => impl_Contend.l2 k A s (List.replicate A.length (-1)) R 0) o2 → Ev (fun k => spec_Contend.l0 k A s R (List.replicate i (-1)) (i : Int)) o1 ∧ Ev (fun k => impl_Contend.l0 k A s R A (A.length : Int) (i : Int)) o2) ∧
    ((¬ ∀ x ∈ A.drop i, CoinsOk x.f0) → Ev (fun k => spec_Contend.l0 k A s R (List.replicate i (-1)) (i : Int)) ([], false) ∧ Ev (fun k => impl_Contend.l0 k A s R A (A.length : Int) (i : Int)) ([], false)) := by
  intro d
  induction d with
  | zero =>
    intro i hd hi
    have e : i = A.length := by omega
    subst e
    rw [List.drop_length]
    refine ⟨fun _ H1 H2 => ⟨ev_unroll ?_, ev_unroll ?_⟩, fun h => absurd (fun x hx => by cases hx) h⟩
    · simp only [spec_Contend.l0, if_neg (show ¬ (A.length : Int) < (A.length : Int) by omega)]
      exact H1
    · simp only [impl_Contend.l0, if_neg (show ¬ (A.length : Int) < (A.length : Int) by omega)]
      refine Ev.bind (a := List.replicate A.length (-1)) ?_ H2
      simp only [slices_Repeat_int_int.f, List.length_singleton, ↓reduceIte, if_pos (show (0 : Int) ≤ (A.length : Int) by omega), if_pos (show (A.length : Int) ≤ 1048576 by omega), Int.toNat_natCast]
      exact Ev.now _
  | succ d ih =>
    intro i hd hi
    have hi2 : i < A.length := by omega
    obtain ⟨g, b⟩ := ih (i + 1) (by omega) (by omega)
    have ew := Aside0.mk (show ((i + 1 : Nat) : Int) = wrap64 ((i : Int) + 1) by rw [w64 (by omega) (by omega)]; omega)
    rw [drop36 A i hi2]
    have n1 : (i : Int) < (A.length : Int) := by omega
    have n2 : (0 : Int) ≤ (i : Int) := by omega
    have hlen := hco _ (rd36_mem (l := A) n2 n1)
    have n3 : (List.replicate i (-1 : Int)).length < 17592186044416 := by rw [List.length_replicate]; omega
    -- one asker's coins
    have inner : ∀ (q1 q2 : List Int × Bool) (e m : Nat), (rd_T36 A (i : Int)).f0.length - m = e → m ≤ (rd_T36 A (i : Int)).f0.length →
        ((∀ c ∈ (rd_T36 A (i : Int)).f0.drop m, 0 ≤ c ∧ c ≤ 1000) → Ev (fun k => spec_Contend.l0 k A s R (List.replicate (i + 1) (-1)) ((i + 1 : Nat) : Int)) q1 → Ev (fun k => impl_Contend.l0 k A s R A (A.length : Int) ((i + 1 : Nat) : Int)) q2 → Ev (fun k => spec_Contend.l1 k A s R (List.replicate i (-1)) (i : Int) (m : Int)) q1 ∧ Ev (fun k => impl_Contend.l1 k A s R A (A.length : Int) (i : Int) (rd_T36 A (i : Int)).f0 ((rd_T36 A (i : Int)).f0.length : Int) (m : Int)) q2) ∧
        ((¬ ∀ c ∈ (rd_T36 A (i : Int)).f0.drop m, 0 ≤ c ∧ c ≤ 1000) → Ev (fun k => spec_Contend.l1 k A s R (List.replicate i (-1)) (i : Int) (m : Int)) ([], false) ∧ Ev (fun k => impl_Contend.l1 k A s R A (A.length : Int) (i : Int) (rd_T36 A (i : Int)).f0 ((rd_T36 A (i : Int)).f0.length : Int) (m : Int)) ([], false)) := by
      intro q1 q2 e
      induction e with
      | zero =>
        intro m he hm
        have em : m = (rd_T36 A (i : Int)).f0.length := by omega
        subst em
        rw [List.drop_length]
        refine ⟨fun _ G1 G2 => by
          rw [ew.out] at G1 G2
          rw [List.replicate_succ'] at G1
          refine ⟨ev_unroll ?_, ev_unroll ?_⟩
          · simp only [spec_Contend.l1, if_pos n1, if_pos n2, if_neg (show ¬ ((rd_T36 A (i : Int)).f0.length : Int) < ((rd_T36 A (i : Int)).f0.length : Int) by omega), if_pos n3]
            exact G1
          · simp only [impl_Contend.l1, if_neg (show ¬ ((rd_T36 A (i : Int)).f0.length : Int) < ((rd_T36 A (i : Int)).f0.length : Int) by omega)]
            exact G2, fun h => absurd (fun x hx => by cases hx) h⟩
      | succ e ihe =>
        intro m he hm
        have hm2 : m < (rd_T36 A (i : Int)).f0.length := by omega
        obtain ⟨g2, b2⟩ := ihe (m + 1) (by omega) (by omega)
        have ew2 := Aside0.mk (show ((m + 1 : Nat) : Int) = wrap64 ((m : Int) + 1) by rw [w64 (by omega) (by omega)]; omega)
        rw [ew2.out] at g2 b2
        rw [drop_rd hm2]
        have m1 : (m : Int) < ((rd_T36 A (i : Int)).f0.length : Int) := by omega
        have m2 : (0 : Int) ≤ (m : Int) := by omega
        by_cases cc : 0 ≤ rd (rd_T36 A (i : Int)).f0 (m : Int) ∧ rd (rd_T36 A (i : Int)).f0 (m : Int) ≤ 1000
        · have step : ∀ o, (Ev (fun k => spec_Contend.l1 k A s R (List.replicate i (-1)) (i : Int) (wrap64 ((m : Int) + 1))) o → Ev (fun k => spec_Contend.l1 k A s R (List.replicate i (-1)) (i : Int) (m : Int)) o) ∧ (Ev (fun k => impl_Contend.l1 k A s R A (A.length : Int) (i : Int) (rd_T36 A (i : Int)).f0 ((rd_T36 A (i : Int)).f0.length : Int) (wrap64 ((m : Int) + 1))) o → Ev (fun k => impl_Contend.l1 k A s R A (A.length : Int) (i : Int) (rd_T36 A (i : Int)).f0 ((rd_T36 A (i : Int)).f0.length : Int) (m : Int)) o) := fun o => ⟨fun h => by
              refine ev_unroll ?_
              simp only [spec_Contend.l1, if_pos n1, if_pos n2, if_pos m1, if_pos m2, l1In_t cc.1 cc.2, Option.bind_some, ↓reduceIte]
              exact h, fun h => by
              refine ev_unroll ?_
              simp only [impl_Contend.l1, if_pos m1, if_pos m2, in_t cc.1 cc.2, Option.bind_some, ↓reduceIte]
              exact h⟩
          refine ⟨fun h G1 G2 => ?_, fun h => ?_⟩
          · obtain ⟨a, b'⟩ := g2 (fun c hc => h c (List.mem_cons_of_mem _ hc)) G1 G2
            exact ⟨(step _).1 a, (step _).2 b'⟩
          · obtain ⟨a, b'⟩ := b2 (fun g => h (fun c hc => by
              rcases List.mem_cons.mp hc with rfl | hc
              · exact cc
              · exact g c hc))
            exact ⟨(step _).1 a, (step _).2 b'⟩
        · refine ⟨fun h _ _ => absurd (h _ (List.mem_cons_self ..)) cc, fun _ => ⟨ev_unroll ?_, ev_unroll ?_⟩⟩
          · simp only [spec_Contend.l1, if_pos n1, if_pos n2, if_pos m1, if_pos m2, l1In_f cc, Option.bind_some, Bool.false_eq_true, ↓reduceIte]
            exact Ev.now _
          · simp only [impl_Contend.l1, if_pos m1, if_pos m2, in_f cc, Option.bind_some, Bool.false_eq_true, ↓reduceIte]
            exact Ev.now _
    have step : ∀ o, (Ev (fun k => spec_Contend.l1 k A s R (List.replicate i (-1)) (i : Int) 0) o → Ev (fun k => spec_Contend.l0 k A s R (List.replicate i (-1)) (i : Int)) o) ∧ (Ev (fun k => impl_Contend.l1 k A s R A (A.length : Int) (i : Int) (rd_T36 A (i : Int)).f0 ((rd_T36 A (i : Int)).f0.length : Int) 0) o → Ev (fun k => impl_Contend.l0 k A s R A (A.length : Int) (i : Int)) o) := fun o => ⟨fun h => by
        refine ev_unroll ?_
        simp only [spec_Contend.l0, if_pos n1]
        exact h, fun h => by
        refine ev_unroll ?_
        simp only [impl_Contend.l0, if_pos n1, if_pos n2]
        exact h⟩
    refine ⟨fun h H1 H2 => ?_, fun h => ?_⟩
    · obtain ⟨a, b'⟩ := g (fun x hx => h x (List.mem_cons_of_mem _ hx)) H1 H2
      obtain ⟨z1, z2⟩ := (inner _ _ _ 0 rfl (Nat.zero_le _)).1 (h _ (List.mem_cons_self ..)) a b'
      exact ⟨(step _).1 z1, (step _).2 z2⟩
    · by_cases c1 : CoinsOk (rd_T36 A (i : Int)).f0
      · obtain ⟨a, b'⟩ := b (fun g2 => h (fun x hx => by
          rcases List.mem_cons.mp hx with rfl | hx
          · exact c1
          · exact g2 x hx))
        obtain ⟨z1, z2⟩ := (inner _ _ _ 0 rfl (Nat.zero_le _)).1 c1 a b'
        exact ⟨(step _).1 z1, (step _).2 z2⟩
      · obtain ⟨z1, z2⟩ := (inner ([], false) ([], false) _ 0 rfl (Nat.zero_le _)).2 c1
        exact ⟨(step _).1 z1, (step _).2 z2⟩
open Classical in
/-- What Contend tells. -/
noncomputable def contR (A : List S36) (s R : Int) : List Int × Bool := if (1 ≤ (A.length : Int) ∧ (A.length : Int) ≤ 40) ∧ (1 ≤ s ∧ s ≤ 16) ∧ (0 ≤ R ∧ R ≤ 60) ∧ AskOk A then (heardAt A s R.toNat, true) else ([], false)
theorem cont_both (A : List S36) (s R : Int) (hco : ∀ x ∈ A, x.f0.length ≤ 1048576) : Ev (fun k => spec_Contend.f k A s R) (contR A s R) ∧ Ev (fun k => impl_Contend.f k A s R) (contR A s R) := by
  by_cases h1 : 1 ≤ (A.length : Int) ∧ (A.length : Int) ≤ 40
  · by_cases h2 : 1 ≤ s ∧ s ≤ 16
    · by_cases h3 : 0 ≤ R ∧ R ≤ 60
      · have run : ∀ o, Ev (fun k => spec_Contend.l0 k A s R [] 0) o ∧ Ev (fun k => impl_Contend.l0 k A s R A (A.length : Int) 0) o → Ev (fun k => spec_Contend.f k A s R) o ∧ Ev (fun k => impl_Contend.f k A s R) o := by
          rintro o ⟨p, q⟩
          constructor
          · simp only [spec_Contend.f, l1In_t h1.1 h1.2, l1In_t h2.1 h2.2, l1In_t h3.1 h3.2, Option.bind_some, ↓reduceIte, Bool.not_true]
            refine ev_unroll ?_
            simp only [spec_Contend.j0, Bool.false_eq_true, ↓reduceIte]
            exact p
          · simp only [impl_Contend.f, in_t h1.1 h1.2, in_t h2.1 h2.2, in_t h3.1 h3.2, Option.bind_some, ↓reduceIte, Bool.not_true]
            refine ev_unroll ?_
            simp only [impl_Contend.j0, Bool.false_eq_true, ↓reduceIte]
            exact q
        by_cases h4 : AskOk A
        · have hR : ((R.toNat : Nat) : Int) = R := Int.toNat_of_nonneg h3.1
          obtain ⟨p, q⟩ := rounds_both A s (by omega) h2 h4 hco R.toNat (by omega) R.toNat 0 (by omega) (Nat.zero_le _)
          rw [hR] at p q
          have e : contR A s R = (heardAt A s R.toNat, true) := if_pos ⟨h1, h2, h3, h4⟩
          rw [e]
          exact run _ ((coins_both A s R (by omega) hco _ _ A.length 0 (by omega) (Nat.zero_le _)).1 h4 p q)
        · have e : contR A s R = ([], false) := if_neg (fun h => h4 h.2.2.2)
          rw [e]
          exact run _ ((coins_both A s R (by omega) hco ([], false) ([], false) A.length 0 (by omega) (Nat.zero_le _)).2 h4)
      · have e : contR A s R = ([], false) := if_neg (fun h => h3 h.2.2.1)
        rw [e]
        constructor
        · simp only [spec_Contend.f, l1In_t h1.1 h1.2, l1In_t h2.1 h2.2, l1In_f h3, Option.bind_some, ↓reduceIte, Bool.not_false]
          refine ev_unroll ?_
          simp only [spec_Contend.j0, ↓reduceIte]
          exact Ev.now _
        · simp only [impl_Contend.f, in_t h1.1 h1.2, in_t h2.1 h2.2, in_f h3, Option.bind_some, ↓reduceIte, Bool.not_false]
          refine ev_unroll ?_
          simp only [impl_Contend.j0, ↓reduceIte]
          exact Ev.now _
    · have e : contR A s R = ([], false) := if_neg (fun h => h2 h.2.1)
      rw [e]
      constructor
      · simp only [spec_Contend.f, l1In_t h1.1 h1.2, l1In_f h2, Option.bind_some, Bool.false_eq_true, ↓reduceIte]
        refine ev_unroll ?_
        simp only [spec_Contend.j0, ↓reduceIte]
        exact Ev.now _
      · simp only [impl_Contend.f, in_t h1.1 h1.2, in_f h2, Option.bind_some, Bool.false_eq_true, ↓reduceIte]
        refine ev_unroll ?_
        simp only [impl_Contend.j0, ↓reduceIte]
        exact Ev.now _
  · have e : contR A s R = ([], false) := if_neg (fun h => h1 h.1)
    rw [e]
    constructor
    · simp only [spec_Contend.f, l1In_f h1, Option.bind_some, Bool.false_eq_true, ↓reduceIte]
      refine ev_unroll ?_
      simp only [spec_Contend.j0, ↓reduceIte]
      exact Ev.now _
    · simp only [impl_Contend.f, in_f h1, Option.bind_some, Bool.false_eq_true, ↓reduceIte]
      refine ev_unroll ?_
      simp only [impl_Contend.j0, ↓reduceIte]
      exact Ev.now _
theorem sizeA_some (l0 : List Int) (a1 : Int) (hb : l0.length ≤ 1048576) (h0 : 0 ≤ a1) (h1 : a1 ≤ 1000) : ∃ v, spec_l1Size.f l0 a1 = some v ∧ 0 ≤ v ∧ v ≤ a1 := by
  unfold spec_l1Size.f
  by_cases h : 2 + (l0.length : Int) / 20 > a1
  · simp (disch := omega) only [↓if_pos, ↓if_neg, if_pos, if_neg, ↓reduceIte, w64, in_t, in_f, l1In_t, l1In_f, Option.bind_some, Bool.not_true, Bool.not_false, Bool.false_eq_true, tmod_nonneg, tdiv_nonneg]
    exact ⟨_, rfl, h0, by omega⟩
  · simp (disch := omega) only [↓if_pos, ↓if_neg, if_pos, if_neg, ↓reduceIte, w64, in_t, in_f, l1In_t, l1In_f, Option.bind_some, Bool.not_true, Bool.not_false, Bool.false_eq_true, tmod_nonneg, tdiv_nonneg]
    exact ⟨_, rfl, by omega, by omega⟩
def Few (A : List S36) : Prop := A.length ≤ 100 ∧ ∀ x ∈ A, x.f0.length ≤ 1000
theorem few_snoc {A : List S36} {l : List Int} (h : Few A) (hl : A.length ≤ 99) (hx : l.length ≤ 1000) : Few (A ++ [⟨l⟩]) := by
  refine ⟨by simp; omega, fun y hy => ?_⟩
  simp only [List.mem_append, List.mem_singleton] at hy
  rcases hy with hy | rfl
  · exact h.2 y hy
  · exact hx
theorem drawC_end (b : List Int) (hb : b.length ≤ 1048576) (A : List S36) (x7 i h : Int) (h7 : ¬ x7 ≥ 0) (hl : 1 ≤ A.length) (hl2 : A.length ≤ 50) (hA : ∀ x ∈ A, x.f0.length ≤ 900) (i0 : 0 ≤ i) (i1 : i ≤ 1048576) :
    ∃ (A' : List S36) (s R : Int), Few A' ∧ Ev (fun k => spec_DrawContend.l0 k A x7 b i h) (A', s, R) := by
  obtain ⟨v, i2, s2, e2, _, _, _, p4, p5⟩ := l1Below_some b i h 25 hb i0 i1
  by_cases c0 : v = 0
  · obtain ⟨n, i3, s3, e3, hn, q4, q5⟩ := l1PickInt_some b i2 s2 [0, 40, 41] (by decide) hb p4 p5
    obtain ⟨s, i4, s4, e4, _, r4, r5⟩ := l1PickInt_some b i3 s3 [1, 2, 4, 8, 16, 17, 0, 3] (by decide) hb q4 q5
    obtain ⟨R, i5, s5, e5, _, _, _⟩ := l1PickInt_some b i4 s4 [0, 1, 3, 6, 60, 61, (-1), 5] (by decide) hb r4 r5
    have hn2 : 0 ≤ n ∧ n ≤ 41 := by simp only [List.mem_cons, List.not_mem_nil, or_false] at hn; omega
    refine ⟨List.replicate n.toNat z36, s, R, ⟨by simp; omega, fun x hx => ?_⟩, ev_unroll ?_⟩
    · rw [(List.mem_replicate.mp hx).2]; simp [z36]
    · simp only [spec_DrawContend.l0, if_neg h7, e2, Option.bind_some, if_pos c0, e3, if_pos hn2.1, if_pos (show n.toNat ≤ 11728124029610 by omega), e4, e5]
      exact Ev.now _
  by_cases c1 : v = 1
  · obtain ⟨n, i3, s3, e3, hn, q4, q5⟩ := l1PickInt_some b i2 s2 [(-1), 1001] (by decide) hb p4 p5
    obtain ⟨s, i4, s4, e4, _, r4, r5⟩ := l1PickInt_some b i3 s3 [1, 2, 4, 8, 16, 17, 0, 3] (by decide) hb q4 q5
    obtain ⟨R, i5, s5, e5, _, _, _⟩ := l1PickInt_some b i4 s4 [0, 1, 3, 6, 60, 61, (-1), 5] (by decide) hb r4 r5
    have h0 := hA _ (rd36_mem (l := A) (i := 0) (by omega) (by omega))
    refine ⟨A.set (0 : Int).toNat ⟨(rd_T36 A 0).f0 ++ [n]⟩, s, R, ⟨by simp; omega, fun x hx => ?_⟩, ev_unroll ?_⟩
    · rcases List.mem_or_eq_of_mem_set hx with hx | rfl
      · have := hA x hx; omega
      · simp; omega
    · simp only [spec_DrawContend.l0, if_neg h7, e2, Option.bind_some, if_neg c0, if_pos c1, if_pos (show 0 < (A.length : Int) by omega), e3, if_pos (show (rd_T36 A 0).f0.length < 17592186044416 by omega), e4, e5]
      exact Ev.now _
  · obtain ⟨s, i4, s4, e4, _, r4, r5⟩ := l1PickInt_some b i2 s2 [1, 2, 4, 8, 16, 17, 0, 3] (by decide) hb p4 p5
    obtain ⟨R, i5, s5, e5, _, _, _⟩ := l1PickInt_some b i4 s4 [0, 1, 3, 6, 60, 61, (-1), 5] (by decide) hb r4 r5
    refine ⟨A, s, R, ⟨by omega, fun x hx => by have := hA x hx; omega⟩, ev_unroll ?_⟩
    simp only [spec_DrawContend.l0, if_neg h7, e2, Option.bind_some, if_neg c0, if_neg c1, e4, e5]
    exact Ev.now _
theorem drawC (b : List Int) (hb : b.length ≤ 1048576) : ∀ (d : Nat) (A : List S36) (x7 i h : Int), x7 + 1 ≤ d → d + A.length ≤ 50 → (1 ≤ A.length ∨ 0 ≤ x7) → (∀ x ∈ A, x.f0.length ≤ 900) → 0 ≤ i → i ≤ 1048576 →
    ∃ (A' : List S36) (s R : Int), Few A' ∧ Ev (fun k => spec_DrawContend.l0 k A x7 b i h) (A', s, R) := by
  intro d
  induction d with
  | zero => exact fun A x7 i h hd hl h1 hA i0 i1 => drawC_end b hb A x7 i h (by omega) (by omega) (by omega) hA i0 i1
  | succ d ih =>
    intro A x7 i h hd hl h1 hA i0 i1
    by_cases hp : x7 ≥ 0
    · have inner : ∀ (e : Nat) (x9 i h : Int) (l : List Int), x9 ≤ e → e + l.length ≤ 50 → 0 ≤ i → i ≤ 1048576 → ∃ (A' : List S36) (s R : Int), Few A' ∧ Ev (fun k => spec_DrawContend.l1 k A x7 x9 b i h l) (A', s, R) := by
        have last : ∀ (x9 i h : Int) (l : List Int), ¬ x9 > 0 → l.length ≤ 50 → 0 ≤ i → i ≤ 1048576 → ∃ (A' : List S36) (s R : Int), Few A' ∧ Ev (fun k => spec_DrawContend.l1 k A x7 x9 b i h l) (A', s, R) := by
          intro x9 i h l h9 hl2 i0 i1
          obtain ⟨A', s, R, o, p⟩ := ih (A ++ [⟨l⟩]) (x7 - 1) i h (by omega) (by simp; omega) (.inl (by simp)) (fun x hx => by
            simp only [List.mem_append, List.mem_singleton] at hx
            rcases hx with hx | rfl
            · exact hA x hx
            · simp only; omega) i0 i1
          have ew : wrap64 (x7 - 1) = x7 - 1 := w64 (by omega) (by omega)
          refine ⟨A', s, R, o, ev_unroll ?_⟩
          simp only [spec_DrawContend.l1, if_neg h9, if_pos (show A.length < 5864062014805 by omega), ew]
          exact p
        intro e
        induction e with
        | zero => exact fun x9 i h l he hl2 i0 i1 => last x9 i h l (by omega) (by omega) i0 i1
        | succ e ihe =>
          intro x9 i h l he hl2 i0 i1
          by_cases h9 : x9 > 0
          · obtain ⟨v, i2, s2, e2, _, _, _, p4, p5⟩ := l1Below_some b i h 1001 hb i0 i1
            obtain ⟨A', s, R, o, p⟩ := ihe (x9 - 1) i2 s2 (l ++ [v]) (by omega) (by simp; omega) p4 p5
            have ew : wrap64 (x9 - 1) = x9 - 1 := w64 (by omega) (by omega)
            refine ⟨A', s, R, o, ev_unroll ?_⟩
            simp only [spec_DrawContend.l1, if_pos h9, e2, Option.bind_some, if_pos (show l.length < 17592186044416 by omega), ew]
            exact p
          · exact last x9 i h l h9 (by omega) i0 i1
      obtain ⟨v, i2, s2, e2, p1, p2, p3, p4, p5⟩ := l1Below_some b i h 8 hb i0 i1
      obtain ⟨A', s, R, o, p⟩ := inner 20 v i2 s2 [] (by have := p2 (by omega); omega) (by simp) p4 p5
      refine ⟨A', s, R, o, ev_unroll ?_⟩
      simp only [spec_DrawContend.l0, if_pos hp, e2, Option.bind_some]
      exact p
    · exact drawC_end b hb A x7 i h hp (by omega) (by omega) hA i0 i1
theorem drawContend_ev (l0 : List Int) (hb : l0.length ≤ 1048576) : ∃ (A : List S36) (s R : Int), Few A ∧ Ev (fun k => spec_DrawContend.f k l0) (A, s, R) := by
  obtain ⟨h, e⟩ := l1New_ev l0
  obtain ⟨n, en, n0, n1⟩ := sizeA_some l0 12 hb (by omega) (by omega)
  obtain ⟨v, i2, s2, e2, p1, p2, p3, p4, p5⟩ := l1Below_some l0 0 h n hb (by omega) (by omega)
  have hv : v ≤ 12 := by
    by_cases hn : 0 < n
    · have := p2 hn; omega
    · have := p3 (by omega); omega
  obtain ⟨A, s, R, o, p⟩ := drawC l0 hb 40 [] v i2 s2 (by omega) (by simp) (.inr p1) (by simp) p4 p5
  refine ⟨A, s, R, o, ?_⟩
  simp only [spec_DrawContend.f]
  refine Ev.bind e ?_
  simp only [en, e2, Option.bind_some]
  exact p
/-- What is heard stays, and was alone in its slot. -/
theorem heard_bd (A : List S36) (s : Int) (j : Nat) (hj : j < A.length) : ∀ r : Nat, rd (heardAt A s r) (j : Int) = -1 ∨ (0 ≤ rd (heardAt A s r) (j : Int) ∧ rd (heardAt A s r) (j : Int) < r) := by
  intro r
  induction r with
  | zero => left; simp [heardAt, rd, hj]
  | succ r ih =>
    show rd (rnd A s (heardAt A s r) (r : Int)) (j : Int) = -1 ∨ _
    rw [show heardAt A s (r + 1) = rnd A s (heardAt A s r) (r : Int) from rfl, rd_rnd _ _ _ _ _ hj]
    unfold nxt
    split
    · right; omega
    · omega
theorem heard_stays (A : List S36) (s : Int) (j : Nat) (hj : j < A.length) (r : Nat) (h : 0 ≤ rd (heardAt A s r) (j : Int)) : ∀ d : Nat, rd (heardAt A s (r + d)) (j : Int) = rd (heardAt A s r) (j : Int) := by
  intro d
  induction d with
  | zero => rfl
  | succ d ih =>
    show rd (rnd A s (heardAt A s (r + d)) ((r + d : Nat) : Int)) (j : Int) = _
    rw [rd_rnd _ _ _ _ _ hj]
    have e : slotOf A s (heardAt A s (r + d)) ((r + d : Nat) : Int) j = -1 := by
      unfold slotOf
      rw [if_neg (fun g => by rw [ih] at g; omega)]
    unfold nxt
    rw [if_neg (fun g => by rw [e] at g; omega), ih]
theorem heard_when (A : List S36) (s : Int) (j : Nat) (hj : j < A.length) : ∀ (R t : Nat), rd (heardAt A s R) (j : Int) = (t : Int) → t < R ∧ rd (heardAt A s t) (j : Int) < 0 ∧ 0 ≤ slotOf A s (heardAt A s t) (t : Int) j ∧ cntS A s (heardAt A s t) (t : Int) (slotOf A s (heardAt A s t) (t : Int) j) A.length = 1 := by
  intro R
  induction R with
  | zero =>
    intro t h
    have : rd (heardAt A s 0) (j : Int) = -1 := by simp [heardAt, rd, hj]
    omega
  | succ R ih =>
    intro t h
    rw [show heardAt A s (R + 1) = rnd A s (heardAt A s R) (R : Int) from rfl, rd_rnd _ _ _ _ _ hj] at h
    unfold nxt at h
    by_cases g : 0 ≤ slotOf A s (heardAt A s R) (R : Int) j ∧ cntS A s (heardAt A s R) (R : Int) (slotOf A s (heardAt A s R) (R : Int) j) A.length = 1
    · rw [if_pos g] at h
      have e : t = R := by omega
      subst e
      refine ⟨by omega, ?_, g⟩
      have g1 := g.1
      unfold slotOf at g1
      split at g1
      · exact (by assumption : _ ∧ _).1
      · omega
    · rw [if_neg g] at h
      obtain ⟨h1, h2⟩ := ih t h
      exact ⟨by omega, h2⟩
theorem cnt_two (A : List S36) (s : Int) (h : List Int) (r c : Int) (a : Nat) (ha : slotOf A s h r a = c) : ∀ n : Nat, a < n → 1 ≤ cntS A s h r c n := by
  intro n
  induction n with
  | zero => intro h; omega
  | succ n ih =>
    intro hn
    have hb := cnt_bd A s h r c n
    simp only [cntS]
    by_cases e : a = n
    · subst e; rw [if_pos ha]; omega
    · have := ih (by omega); split <;> omega
theorem cnt_pair (A : List S36) (s : Int) (h : List Int) (r c : Int) (a b : Nat) (ha : slotOf A s h r a = c) (hb : slotOf A s h r b = c) (hab : a < b) : ∀ n : Nat, b < n → 2 ≤ cntS A s h r c n := by
  intro n
  induction n with
  | zero => intro h; omega
  | succ n ih =>
    intro hn
    simp only [cntS]
    by_cases e : b = n
    · subst e
      have := cnt_two A s h r c a ha b hab
      rw [if_pos hb]; omega
    · have := ih (by omega); split <;> omega
section
variable (A : List S36) (s R : Int) (hA : 1 ≤ A.length ∧ A.length ≤ 40) (hs : 1 ≤ s ∧ s ≤ 16) (hR : 0 ≤ R ∧ R ≤ 60) (hok : AskOk A)
include hA hs hR hok
theorem law_l1 (i : Nat) (hi : i < A.length) (t : Nat) (ht : rd (heardAt A s R.toNat) (i : Int) = (t : Int)) (H : Ev (fun k => laws_FnAlone.l0 k A s R (heardAt A s R.toNat) (wrap64 ((i : Int) + 1))) true) : ∀ (d j : Nat), A.length - j = d → j ≤ A.length →
    Ev (fun k => laws_FnAlone.l1 k A s R (heardAt A s R.toNat) (i : Int) (j : Int)) true := by
  have hl := heardAt_length A s R.toNat
  obtain ⟨w1, w2, w3, w4⟩ := heard_when A s i hi R.toNat t ht
  have wi : slotOf A s (heardAt A s t) (t : Int) i = (rd (rd_T36 A (i : Int)).f0 (t : Int)) % s ∧ (t : Int) < ((rd_T36 A (i : Int)).f0.length : Int) := by
    unfold slotOf at w3 ⊢
    split at w3
    · rename_i g; rw [if_pos g]; exact ⟨rfl, g.2⟩
    · omega
  intro d
  induction d with
  | zero =>
    intro j hd hj
    refine ev_unroll ?_
    simp only [laws_FnAlone.l1, if_neg (show ¬ (j : Int) < ((heardAt A s R.toNat).length : Int) by omega)]
    exact H
  | succ d ih =>
    intro j hd hj
    have hj2 : j < A.length := by omega
    have p := ih (j + 1) (by omega) (by omega)
    have ew := Aside0.mk (show ((j + 1 : Nat) : Int) = wrap64 ((j : Int) + 1) by rw [w64 (by omega) (by omega)]; omega)
    rw [ew.out] at p
    have n1 : (j : Int) < ((heardAt A s R.toNat).length : Int) := by omega
    have n2 : (0 : Int) ≤ (j : Int) := by omega
    have n3 : (j : Int) < (A.length : Int) := by omega
    have n4 : (0 : Int) ≤ (i : Int) := by omega
    have n5 : (i : Int) < ((heardAt A s R.toNat).length : Int) := by omega
    have n6 : (i : Int) < (A.length : Int) := by omega
    have n7 : (0 : Int) ≤ (t : Int) := by omega
    refine ev_unroll ?_
    simp only [laws_FnAlone.l1, if_pos n1]
    by_cases e : j = i
    · simp only [if_pos (show (j : Int) = (i : Int) by omega)]
      exact p
    · simp only [if_neg (show ¬ (j : Int) = (i : Int) by omega), if_pos n2, ht, if_pos n3, if_pos n4, if_pos n5, if_pos n6, if_pos n7, if_neg (show ¬ s = 0 by omega), if_pos wi.2]
      -- the two asked in one slot: then neither is heard
      have key : rd (heardAt A s t) (j : Int) < 0 → (t : Int) < ((rd_T36 A (j : Int)).f0.length : Int) → ¬ Int.tmod (rd (rd_T36 A (j : Int)).f0 (t : Int)) s = Int.tmod (rd (rd_T36 A (i : Int)).f0 (t : Int)) s := by
        intro g1 g2 g3
        have ci := hok _ (rd36_mem (l := A) (i := (i : Int)) n4 n6) _ (rd_mem (xs := (rd_T36 A (i : Int)).f0) (i := (t : Int)) n7 wi.2)
        have cj := hok _ (rd36_mem (l := A) (i := (j : Int)) n2 n3) _ (rd_mem (xs := (rd_T36 A (j : Int)).f0) (i := (t : Int)) n7 g2)
        rw [tmod_nonneg ci.1, tmod_nonneg cj.1] at g3
        have sj : slotOf A s (heardAt A s t) (t : Int) j = slotOf A s (heardAt A s t) (t : Int) i := by
          rw [wi.1, ← g3]; unfold slotOf; rw [if_pos ⟨g1, g2⟩]
        by_cases c : i < j
        · have := cnt_pair A s (heardAt A s t) (t : Int) _ i j rfl sj c A.length hj2
          omega
        · have := cnt_pair A s (heardAt A s t) (t : Int) _ j i sj rfl (by omega) A.length hi
          omega
      have early : ∀ (_ : rd (heardAt A s R.toNat) (j : Int) < 0 ∨ rd (heardAt A s R.toNat) (j : Int) ≥ (t : Int)), rd (heardAt A s t) (j : Int) < 0 := by
        intro g
        rcases heard_bd A s j hj2 t with h1 | h1
        · omega
        · have := heard_stays A s j hj2 t h1.1 (R.toNat - t)
          rw [show t + (R.toNat - t) = R.toNat by omega] at this
          omega
      by_cases c1 : rd (heardAt A s R.toNat) (j : Int) < 0
      · simp only [if_pos c1]
        by_cases c2 : (t : Int) < ((rd_T36 A (j : Int)).f0.length : Int)
        · simp only [if_pos c2, if_neg (key (early (.inl c1)) c2)]
          exact p
        · simp only [if_neg c2]
          exact p
      · simp only [if_neg c1]
        by_cases c3 : rd (heardAt A s R.toNat) (j : Int) ≥ (t : Int)
        · simp only [if_pos c3]
          by_cases c2 : (t : Int) < ((rd_T36 A (j : Int)).f0.length : Int)
          · simp only [if_pos c2, if_neg (key (early (.inr c3)) c2)]
            exact p
          · simp only [if_neg c2]
            exact p
        · simp only [if_neg c3]
          exact p
theorem law_l0 : ∀ (d i : Nat), A.length - i = d → i ≤ A.length → Ev (fun k => laws_FnAlone.l0 k A s R (heardAt A s R.toNat) (i : Int)) true := by
  have hl := heardAt_length A s R.toNat
  intro d
  induction d with
  | zero =>
    intro i hd hi
    refine ev_unroll ?_
    simp only [laws_FnAlone.l0, hl, if_neg (show ¬ (i : Int) < (A.length : Int) by omega), beq_self_eq_true]
    exact Ev.now _
  | succ d ih =>
    intro i hd hi
    have hi2 : i < A.length := by omega
    have p := ih (i + 1) (by omega) (by omega)
    have ew := Aside0.mk (show ((i + 1 : Nat) : Int) = wrap64 ((i : Int) + 1) by rw [w64 (by omega) (by omega)]; omega)
    rw [ew.out] at p
    have n1 : (i : Int) < ((heardAt A s R.toNat).length : Int) := by omega
    have n2 : (0 : Int) ≤ (i : Int) := by omega
    have n3 : (i : Int) < (A.length : Int) := by omega
    refine ev_unroll ?_
    simp only [laws_FnAlone.l0, if_pos n1, if_pos n2]
    by_cases c1 : rd (heardAt A s R.toNat) (i : Int) < 0
    · simp only [if_pos c1]
      exact p
    · obtain ⟨t, ht⟩ := Int.eq_ofNat_of_zero_le (show 0 ≤ rd (heardAt A s R.toNat) (i : Int) by omega)
      obtain ⟨w1, w2, w3, w4⟩ := heard_when A s i hi2 R.toNat t ht
      have wl : (t : Int) < ((rd_T36 A (i : Int)).f0.length : Int) := by
        unfold slotOf at w3
        split at w3
        · rename_i g; exact g.2
        · omega
      simp only [if_neg c1, ht, if_neg (show ¬ (t : Int) ≥ R by omega), if_pos n3, decide_eq_false (show ¬ (t : Int) ≥ ((rd_T36 A (i : Int)).f0.length : Int) by omega)]
      refine ev_unroll ?_
      simp only [laws_FnAlone.j2, Bool.false_eq_true, ↓reduceIte]
      exact law_l1 A s R hA hs hR hok i hi2 t ht p A.length 0 (by omega) (Nat.zero_le _)
end
theorem smallC_ev : Ev (fun k => impl_Contend.f k [⟨[1, 0]⟩, ⟨[1, 1]⟩] 2 2) ([1, 1], true) :=
  Ev.of (fun k => impl_Contend.mono [⟨[1, 0]⟩, ⟨[1, 1]⟩] 2 2 k) (k := 90) (by decide +kernel)
theorem FnAlone : laws_FnAlone.Pure := by
  intro l0 _ _ hw
  refine Ev.rounds (g := fun k => laws_FnAlone.f k l0) ?_
  simp only [laws_FnAlone.f, laws_big.f, Option.bind_some, decide_eq_true_eq]
  by_cases hb : (l0.length : Int) > 1048576
  · simp only [if_pos hb]
    exact Ev.now _
  simp only [if_neg hb]
  obtain ⟨A, s, R, hf, hd⟩ := drawContend_ev l0 (by omega)
  obtain ⟨ps, pi⟩ := cont_both A s R (fun x hx => by have := hf.2 x hx; omega)
  refine Ev.bind hd (Ev.bind pi (Ev.bind ps ?_))
  simp only [bne_self_eq_false, Bool.false_eq_true, ↓reduceIte]
  refine Ev.bind smallC_ev ?_
  simp only [↓reduceIte]
  refine Ev.bind (sameInts_ev [1, 1] [1, 1] (by simp)) ?_
  simp only [decide_true, Bool.not_true]
  refine ev_unroll ?_
  simp only [laws_FnAlone.j0, Bool.false_eq_true, ↓reduceIte]
  by_cases hC : (1 ≤ (A.length : Int) ∧ (A.length : Int) ≤ 40) ∧ (1 ≤ s ∧ s ≤ 16) ∧ (0 ≤ R ∧ R ≤ 60) ∧ AskOk A
  · rw [show contR A s R = (heardAt A s R.toNat, true) from if_pos hC]
    simp only [↓reduceIte]
    exact law_l0 A s R (by omega) hC.2.1 hC.2.2.1 hC.2.2.2 A.length 0 rfl (Nat.zero_le _)
  · rw [show contR A s R = ([], false) from if_neg hC]
    simp only [Bool.false_eq_true, ↓reduceIte]
    exact Ev.now _

end Go.Proofs.Ytheinelpeapleaa.Pure
