/- The law FnShedKept: for every code, of the drawn calls that ask at once as many are let in as there is room for, and none of a greater class while one of a lesser is refused. -/
import Derived.Test.YtakafcocojjeoaaMFnShedKeptx14
import Derived.Test.YtakafcocojjeoaaKitFnShedKept
namespace Go.Proofs.Ytakafcocojjeoaa.Pure
set_option linter.unusedSimpArgs false
set_option linter.unusedVariables false
set_option linter.unusedSectionVars false
open Go Go.RowKit Go.Proofs.Ytakafcocojjeoaa.MFnShedKept Go.Proofs.YtakafcocojjeoaaW.PrintWords Go.Proofs.YtakafcocojjeoaaW.PrintLast Go.Proofs.Ytakafcocojjeoaa.Mine

theorem in_t {a b c : Int} (h : b ≤ a) (h2 : a ≤ c) : impl_in.f a b c = some true := by
  unfold impl_in.f
  rw [if_pos (by omega)]; simp [h2]
theorem in_f {a b c : Int} (h : ¬ (b ≤ a ∧ a ≤ c)) : impl_in.f a b c = some false := by
  unfold impl_in.f
  by_cases g : a ≥ b
  · rw [if_pos g]; simp; omega
  · rw [if_neg g]
theorem l1In_t {a b c : Int} (h : b ≤ a) (h2 : a ≤ c) : spec_l1In.f a b c = some true := by
  unfold spec_l1In.f
  rw [if_pos (by omega)]; simp [h2]
theorem l1In_f {a b c : Int} (h : ¬ (b ≤ a ∧ a ≤ c)) : spec_l1In.f a b c = some false := by
  unfold spec_l1In.f
  by_cases g : a ≥ b
  · rw [if_pos g]; simp; omega
  · rw [if_neg g]
def ArOk (a : S43) : Prop := (0 ≤ a.f0 ∧ a.f0 ≤ 1000000000) ∧ (0 ≤ a.f1 ∧ a.f1 ≤ 10000) ∧ (0 ≤ a.f2 ∧ a.f2 ≤ 3)
theorem rd43_get (l : List S43) (i : Nat) (h : i < l.length) : rd_T43 l (i : Int) = l[i] := by simp [rd_T43, h]
theorem rd43_mem {l : List S43} {i : Int} (h0 : 0 ≤ i) (h1 : i < (l.length : Int)) : rd_T43 l i ∈ l := by
  have h : i.toNat < l.length := by omega
  have e : rd_T43 l i = l[i.toNat] := by simp [rd_T43, h]
  rw [e]; exact List.getElem_mem h
theorem drop43 (l : List S43) (i : Nat) (h : i < l.length) : l.drop i = rd_T43 l (i : Int) :: l.drop (i + 1) := by
  rw [rd43_get l i h, List.drop_eq_getElem_cons h]
/-- The reference's test of the spare circuits. -/
theorem arr_spec (l : List S43) (hs : l.length ≤ 1048576) : ∃ b, Ev (fun k => spec_l17Arrivals.f k l) b ∧ Ev (fun k => impl_arrivalsOk.f k l) b ∧ (b = true ↔ (∀ x ∈ l, ArOk x) ∧ l.length ≤ 200) := by
  have key : ∀ (d i : Nat), l.length - i = d → i ≤ l.length →
      ∃ b, Ev (fun k => spec_l17Arrivals.l0 k l (i : Int)) b ∧ Ev (fun k => impl_arrivalsOk.l0 k l l (l.length : Int) (i : Int)) b ∧ (b = true ↔ (∀ x ∈ l.drop i, ArOk x) ∧ l.length ≤ 200) := by
    intro d
    induction d with
    | zero =>
      intro i hd hi
      refine ⟨decide ((l.length : Int) ≤ 200), ev_unroll ?_, ev_unroll ?_, ?_⟩
      · simp only [spec_l17Arrivals.l0, if_neg (show ¬ (i : Int) < (l.length : Int) by omega)]
        exact Ev.now _
      · simp only [impl_arrivalsOk.l0, if_neg (show ¬ (i : Int) < (l.length : Int) by omega)]
        exact Ev.now _
      · rw [List.drop_eq_nil_of_le (by omega), decide_eq_true_eq]
        exact ⟨fun h => ⟨(fun x hx => by cases hx), by omega⟩, fun h => by omega⟩
    | succ d ih =>
      intro i hd hi
      have hi2 : i < l.length := by omega
      obtain ⟨b, p, p2, q⟩ := ih (i + 1) (by omega) (by omega)
      have e : ((i + 1 : Nat) : Int) = wrap64 ((i : Int) + 1) := by rw [w64 (by omega) (by omega)]; omega
      rw [e] at p p2
      rw [drop43 l i hi2]
      have n1 : (i : Int) < (l.length : Int) := by omega
      have n2 : (0 : Int) ≤ (i : Int) := by omega
      have bad : ¬ ArOk (rd_T43 l (i : Int)) → (false = true ↔ (∀ x ∈ rd_T43 l (i : Int) :: l.drop (i + 1), ArOk x) ∧ l.length ≤ 200) := fun h => ⟨(fun h2 => by cases h2), fun h2 => absurd (h2.1 _ (List.mem_cons_self ..)) h⟩
      by_cases c1 : 0 ≤ (rd_T43 l (i : Int)).f0 ∧ (rd_T43 l (i : Int)).f0 ≤ 1000000000
      · by_cases c2 : 0 ≤ (rd_T43 l (i : Int)).f1 ∧ (rd_T43 l (i : Int)).f1 ≤ 10000
        · by_cases c3 : 0 ≤ (rd_T43 l (i : Int)).f2 ∧ (rd_T43 l (i : Int)).f2 ≤ 3
          · refine ⟨b, ev_unroll ?_, ev_unroll ?_, ?_⟩
            · simp only [spec_l17Arrivals.l0, if_pos n1, if_pos n2, spec_l17Arrival.f, spec_l4Tick.f, l1In_t c1.1 c1.2, l1In_t c2.1 c2.2, l1In_t c3.1 c3.2, Option.bind_some, ↓reduceIte]
              exact p
            · simp only [impl_arrivalsOk.l0, if_pos n1, if_pos n2, in_t c1.1 c1.2, in_t c2.1 c2.2, in_t c3.1 c3.2, Option.bind_some, ↓reduceIte]
              exact p2
            · rw [q]
              exact ⟨fun h => ⟨fun x hx => by
                rcases List.mem_cons.mp hx with rfl | hx
                · exact ⟨c1, c2, c3⟩
                · exact h.1 x hx, h.2⟩, fun h => ⟨fun x hx => h.1 x (List.mem_cons_of_mem _ hx), h.2⟩⟩
          · refine ⟨false, ev_unroll ?_, ev_unroll ?_, bad (fun h => c3 h.2.2)⟩
            · simp only [spec_l17Arrivals.l0, if_pos n1, if_pos n2, spec_l17Arrival.f, spec_l4Tick.f, l1In_t c1.1 c1.2, l1In_t c2.1 c2.2, l1In_f c3, Option.bind_some, ↓reduceIte, Bool.false_eq_true]
              exact Ev.now _
            · simp only [impl_arrivalsOk.l0, if_pos n1, if_pos n2, in_t c1.1 c1.2, in_t c2.1 c2.2, in_f c3, Option.bind_some, ↓reduceIte, Bool.false_eq_true]
              exact Ev.now _
        · refine ⟨false, ev_unroll ?_, ev_unroll ?_, bad (fun h => c2 h.2.1)⟩
          · simp only [spec_l17Arrivals.l0, if_pos n1, if_pos n2, spec_l17Arrival.f, spec_l4Tick.f, l1In_t c1.1 c1.2, l1In_f c2, Option.bind_some, ↓reduceIte, Bool.false_eq_true]
            exact Ev.now _
          · simp only [impl_arrivalsOk.l0, if_pos n1, if_pos n2, in_t c1.1 c1.2, in_f c2, Option.bind_some, ↓reduceIte, Bool.false_eq_true]
            exact Ev.now _
      · refine ⟨false, ev_unroll ?_, ev_unroll ?_, bad (fun h => c1 h.1)⟩
        · simp only [spec_l17Arrivals.l0, if_pos n1, if_pos n2, spec_l17Arrival.f, spec_l4Tick.f, l1In_f c1, Option.bind_some, ↓reduceIte, Bool.false_eq_true]
          exact Ev.now _
        · simp only [impl_arrivalsOk.l0, if_pos n1, if_pos n2, in_f c1, Option.bind_some, ↓reduceIte, Bool.false_eq_true]
          exact Ev.now _
  obtain ⟨b, p, p2, q⟩ := key l.length 0 rfl (Nat.zero_le _)
  exact ⟨b, p, p2, q⟩
theorem l1New_ev (x0 : List Int) : ∃ h, Ev (fun k => spec_l1New.f k x0) (x0, 0, h) := by
  have key : ∀ (d : Nat) (i h : Int), 4000 - i ≤ d → 0 ≤ i → ∃ h', Ev (fun k => spec_l1New.l0 k x0 h i) (x0, 0, h') := by
    intro d
    induction d with
    | zero =>
      intro i h hd h0
      refine ⟨h, ev_unroll ?_⟩
      by_cases hlt : i < (x0.length : Int)
      · simp (disch := omega) only [spec_l1New.l0, ↓if_pos, ↓if_neg, if_pos, if_neg, ↓reduceIte, w64, in_t, in_f, l1In_t, l1In_f, Option.bind_some, Bool.not_true, Bool.not_false, Bool.false_eq_true, tmod_nonneg, tdiv_nonneg]
        exact Ev.now _
      · simp (disch := omega) only [spec_l1New.l0, ↓if_pos, ↓if_neg, if_pos, if_neg, ↓reduceIte, w64, in_t, in_f, l1In_t, l1In_f, Option.bind_some, Bool.not_true, Bool.not_false, Bool.false_eq_true, tmod_nonneg, tdiv_nonneg]
        exact Ev.now _
    | succ d ih =>
      intro i h hd h0
      by_cases hlt : i < (x0.length : Int)
      · by_cases h4 : i < 4000
        · obtain ⟨h', p⟩ := ih (i + 1) (Go.bits .and .i64 (wrap64 ((wrap64 ((wrap64 (h * 131)) + (wrap64 (rd x0 i)))) + 7)) 1073741823) (by omega) (by omega)
          refine ⟨h', ev_unroll ?_⟩
          simp only [spec_l1New.l0, if_pos hlt, if_pos h4, if_pos h0]
          rw [w64 (x := i + 1) (by omega) (by omega)]
          exact p
        · refine ⟨h, ev_unroll ?_⟩
          simp (disch := omega) only [spec_l1New.l0, ↓if_pos, ↓if_neg, if_pos, if_neg, ↓reduceIte, w64, in_t, in_f, l1In_t, l1In_f, Option.bind_some, Bool.not_true, Bool.not_false, Bool.false_eq_true, tmod_nonneg, tdiv_nonneg]
          exact Ev.now _
      · refine ⟨h, ev_unroll ?_⟩
        simp (disch := omega) only [spec_l1New.l0, ↓if_pos, ↓if_neg, if_pos, if_neg, ↓reduceIte, w64, in_t, in_f, l1In_t, l1In_f, Option.bind_some, Bool.not_true, Bool.not_false, Bool.false_eq_true, tmod_nonneg, tdiv_nonneg]
        exact Ev.now _
  obtain ⟨h', p⟩ := key 4000 0 (wrap64 (71933 + (x0.length : Int))) (by omega) (by omega)
  exact ⟨h', p⟩
theorem l1Byte_some (b : List Int) (i h : Int) (hb : b.length ≤ 1048576) (h0 : 0 ≤ i) (h1 : i ≤ 1048576) :
    ∃ v i' h', spec_l1Byte.f b i h = some (v, i', h') ∧ 0 ≤ v ∧ v ≤ 255 ∧ 0 ≤ i' ∧ i' ≤ 1048576 := by
  unfold spec_l1Byte.f
  by_cases hlt : i < (b.length : Int)
  · rw [if_pos hlt, if_pos h0, w64 (x := i + 1) (by omega) (by omega)]
    refine ⟨_, _, _, rfl, ?_, ?_, by omega, by omega⟩
    · rw [and255]; omega
    · rw [and255]; omega
  · rw [if_neg hlt]
    refine ⟨_, _, _, rfl, ?_, ?_, h0, h1⟩
    · rw [and255]; omega
    · rw [and255]; omega
theorem l1Below_some (b : List Int) (i h n : Int) (hb : b.length ≤ 1048576) (h0 : 0 ≤ i) (h1 : i ≤ 1048576) :
    ∃ v i' h', spec_l1Below.f b i h n = some (v, i', h') ∧ 0 ≤ v ∧ (0 < n → v < n) ∧ (n ≤ 0 → v = 0) ∧ 0 ≤ i' ∧ i' ≤ 1048576 := by
  unfold spec_l1Below.f
  by_cases hn : n ≤ 0
  · rw [if_pos hn]
    exact ⟨0, i, h, rfl, by omega, by omega, fun _ => rfl, h0, h1⟩
  rw [if_neg hn]
  by_cases hm : n ≤ 256
  · rw [if_pos hm]
    obtain ⟨v, i1, s1, e1, p1, p2, p3, p4⟩ := l1Byte_some b i h hb h0 h1
    rw [e1]
    simp only [Option.bind_some]
    rw [if_neg (by omega), tmod_nonneg p1]
    exact ⟨_, _, _, rfl, Int.emod_nonneg _ (by omega), fun _ => Int.emod_lt_of_pos _ (by omega), fun h => absurd h hn, p3, p4⟩
  · rw [if_neg hm]
    obtain ⟨v1, i1, s1, e1, p1, p2, p3, p4⟩ := l1Byte_some b i h hb h0 h1
    obtain ⟨v2, i2, s2, e2, q1, q2, q3, q4⟩ := l1Byte_some b i1 s1 hb p3 p4
    obtain ⟨v3, i3, s3, e3, r1, r2, r3, r4⟩ := l1Byte_some b i2 s2 hb q3 q4
    obtain ⟨v4, i4, s4, e4, t1, t2, t3, t4⟩ := l1Byte_some b i3 s3 hb r3 r4
    rw [e1]
    simp only [Option.bind_some]
    rw [e2]
    simp only [Option.bind_some]
    rw [e3]
    simp only [Option.bind_some]
    rw [e4]
    simp only [Option.bind_some]
    rw [if_neg (by omega)]
    refine ⟨_, _, _, rfl, ?_, ?_, fun h => absurd h hn, t3, t4⟩
    · simp (disch := omega) only [w64]
      rw [tmod_nonneg (by omega)]
      exact Int.emod_nonneg _ (by omega)
    · intro _
      simp (disch := omega) only [w64]
      rw [tmod_nonneg (by omega)]
      exact Int.emod_lt_of_pos _ (by omega)
theorem l1PickInt_some (b : List Int) (i h : Int) (l : List Int) (hl : 0 < l.length) (hb : b.length ≤ 1048576) (h0 : 0 ≤ i) (h1 : i ≤ 1048576) :
    ∃ v i' h', spec_l1PickInt.f b i h l = some (v, i', h') ∧ v ∈ l ∧ 0 ≤ i' ∧ i' ≤ 1048576 := by
  unfold spec_l1PickInt.f
  obtain ⟨v, i1, s1, e1, p1, p2, p3, p4, p5⟩ := l1Below_some b i h (l.length : Int) hb h0 h1
  rw [e1]
  simp only [Option.bind_some]
  rw [if_pos p1, if_pos (p2 (by omega))]
  exact ⟨_, _, _, rfl, rd_mem p1 (p2 (by omega)), p4, p5⟩
theorem sizeT_some (l0 : List Int) (a1 : Int) (hb : l0.length ≤ 1048576) (h0 : 0 ≤ a1) (h1 : a1 ≤ 1000) : ∃ v, spec_l1Size.f l0 a1 = some v ∧ 0 ≤ v ∧ v ≤ a1 := by
  unfold spec_l1Size.f
  by_cases h : 2 + (l0.length : Int) / 20 > a1
  · simp (disch := omega) only [↓if_pos, ↓if_neg, if_pos, if_neg, ↓reduceIte, w64, in_t, in_f, l1In_t, l1In_f, Option.bind_some, Bool.not_true, Bool.not_false, Bool.false_eq_true, tmod_nonneg, tdiv_nonneg]
    exact ⟨_, rfl, h0, by omega⟩
  · simp (disch := omega) only [↓if_pos, ↓if_neg, if_pos, if_neg, ↓reduceIte, w64, in_t, in_f, l1In_t, l1In_f, Option.bind_some, Bool.not_true, Bool.not_false, Bool.false_eq_true, tmod_nonneg, tdiv_nonneg]
    exact ⟨_, rfl, by omega, by omega⟩
theorem drawT (b : List Int) (hb : b.length ≤ 1048576) (n : Int) (hn : n ≤ 1000) : ∀ (d : Nat) (x5 : List S43) (x6 x7 i h : Int), n - x7 ≤ d → 0 ≤ x7 → (x5.length : Int) ≤ x7 → x7 ≤ 1000 → 0 ≤ i → i ≤ 1048576 →
    ∃ (l : List S43) (i' h' : Int), l.length ≤ 2000 ∧ 0 ≤ i' ∧ i' ≤ 1048576 ∧ Ev (fun k => spec_l17Draw.l0 k n x5 x6 x7 b i h) (l, i', h') := by
  intro d
  induction d with
  | zero =>
    intro x5 x6 x7 i h hd h7 h5 h71 i0 i1
    refine ⟨x5, i, h, by omega, i0, i1, ev_unroll ?_⟩
    simp only [spec_l17Draw.l0, if_neg (show ¬ x7 < n by omega)]
    exact Ev.now _
  | succ d ih =>
    intro x5 x6 x7 i h hd h7 h5 h71 i0 i1
    by_cases hlt : x7 < n
    · obtain ⟨v1, i2, s2, e2, _, _, _, p4, p5⟩ := l1Below_some b i h 40 hb i0 i1
      obtain ⟨v2, i3, s3, e3, _, _, _, q4, q5⟩ := l1Below_some b i2 s2 4 hb p4 p5
      obtain ⟨v3, i4, s4, e4, _, _, _, r4, r5⟩ := l1Below_some b i3 s3 8 hb q4 q5
      obtain ⟨l, i', h', o1, o2, o3, p⟩ := ih (x5 ++ [⟨x6, v1, v2⟩]) (wrap64 (x6 + v3)) (x7 + 1) i4 s4 (by omega) (by omega) (by simp; omega) (by omega) r4 r5
      have ew : wrap64 (x7 + 1) = x7 + 1 := w64 (by omega) (by omega)
      refine ⟨l, i', h', o1, o2, o3, ev_unroll ?_⟩
      simp only [spec_l17Draw.l0, if_pos hlt, e2, e3, e4, Option.bind_some, if_pos (show x5.length < 5864062014805 by omega), ew]
      exact p
    · refine ⟨x5, i, h, by omega, i0, i1, ev_unroll ?_⟩
      simp only [spec_l17Draw.l0, if_neg hlt]
      exact Ev.now _
theorem drawAny_ev (b l1 : List Int) (hb : b.length ≤ 1048576) (hb1 : l1.length ≤ 1048576) (i h : Int) (i0 : 0 ≤ i) (i1 : i ≤ 1048576) :
    ∃ (l : List S43) (i' h' : Int), l.length ≤ 3000 ∧ 0 ≤ i' ∧ i' ≤ 1048576 ∧ Ev (fun k => spec_l17DrawAny.f k b i h l1) (l, i', h') := by
  obtain ⟨v, ev, v0, v1⟩ := sizeT_some l1 24 hb1 (by omega) (by omega)
  have ew : wrap64 (v + 1) = v + 1 := w64 (by omega) (by omega)
  obtain ⟨n, i2, s2, e2, p1, p2, p3, p4, p5⟩ := l1Below_some b i h (v + 1) hb i0 i1
  have hn := p2 (by omega)
  obtain ⟨t, i3, s3, e3, _, _, _, q4, q5⟩ := l1Below_some b i2 s2 20 hb p4 p5
  obtain ⟨l, i4, s4, hl, r4, r5, hd⟩ := drawT b hb n (by omega) 1000 [] t 0 i3 s3 (by omega) (by omega) (by simp) (by omega) q4 q5
  have hd2 : Ev (fun k => spec_l17Draw.f k b i2 s2 n) (l, i4, s4) := by
    simp only [spec_l17Draw.f, e3, Option.bind_some]
    exact hd
  obtain ⟨z, i5, s5, e5, t1, t2, t3, t4, t5⟩ := l1Below_some b i4 s4 25 hb r4 r5
  have start : ∀ r, (Ev (fun k => if z = 0 then ((spec_l1PickInt.f b i5 s5 (([(-1), 0, 1000000000, 1000000001] : List Int))).bind fun bt269 => (if l.length < 5864062014805 then (some ((l ++ [(⟨bt269.1, 0, 0⟩ : S43)]), bt269.2.1, bt269.2.2)) else (none))) else (if z = 1 then (if (l.length : Int) > 0 then ((spec_l1PickInt.f b i5 s5 (([(-1), 10000, 10001] : List Int))).bind fun bt278 => (if 0 < (l.length : Int) then (some ((l.set (0 : Int).toNat (⟨(rd_T43 l 0).f0, bt278.1, (rd_T43 l 0).f2⟩ : S43)), bt278.2.1, bt278.2.2)) else (none))) else (some (l, i5, s5))) else (if z = 2 then (if (l.length : Int) > 0 then ((spec_l1PickInt.f b i5 s5 (([(-1), 3, 4] : List Int))).bind fun bt285 => (if 0 < (l.length : Int) then (some ((l.set (0 : Int).toNat (⟨(rd_T43 l 0).f0, (rd_T43 l 0).f1, bt285.1⟩ : S43)), bt285.2.1, bt285.2.2)) else (none))) else (some (l, i5, s5))) else (if z = 3 then ((spec_l1Below.f b i5 s5 2).bind fun bt289 => (if 0 ≤ (wrap64 (200 + bt289.1)) then (if (wrap64 (200 + bt289.1) : Int).toNat ≤ 11728124029610 then (some ((List.replicate (wrap64 (200 + bt289.1) : Int).toNat z43), bt289.2.1, bt289.2.2)) else (none)) else (none))) else (some (l, i5, s5)))))) r) → Ev (fun k => spec_l17DrawAny.f k b i h l1) r := by
    intro r hr
    simp only [spec_l17DrawAny.f, ev, Option.bind_some, ew, e2]
    refine Ev.bind hd2 ?_
    simp only [e5, Option.bind_some]
    exact hr
  by_cases c0 : z = 0
  · obtain ⟨y, i6, s6, e6, _, u1, u2⟩ := l1PickInt_some b i5 s5 [(-1), 0, 1000000000, 1000000001] (by decide) hb t4 t5
    refine ⟨l ++ [⟨y, 0, 0⟩], i6, s6, by simp; omega, u1, u2, start _ ?_⟩
    simp only [if_pos c0, e6, Option.bind_some, if_pos (show l.length < 5864062014805 by omega)]
    exact Ev.now _
  by_cases c1 : z = 1
  · by_cases hz : (l.length : Int) > 0
    · obtain ⟨y, i6, s6, e6, _, u1, u2⟩ := l1PickInt_some b i5 s5 [(-1), 10000, 10001] (by decide) hb t4 t5
      refine ⟨l.set (0 : Int).toNat ⟨(rd_T43 l 0).f0, y, (rd_T43 l 0).f2⟩, i6, s6, by simp; omega, u1, u2, start _ ?_⟩
      simp only [if_neg c0, if_pos c1, if_pos hz, e6, Option.bind_some, if_pos (show 0 < (l.length : Int) from hz)]
      exact Ev.now _
    · refine ⟨l, i5, s5, by omega, t4, t5, start _ ?_⟩
      simp only [if_neg c0, if_pos c1, if_neg hz]
      exact Ev.now _
  by_cases c2 : z = 2
  · by_cases hz : (l.length : Int) > 0
    · obtain ⟨y, i6, s6, e6, _, u1, u2⟩ := l1PickInt_some b i5 s5 [(-1), 3, 4] (by decide) hb t4 t5
      refine ⟨l.set (0 : Int).toNat ⟨(rd_T43 l 0).f0, (rd_T43 l 0).f1, y⟩, i6, s6, by simp; omega, u1, u2, start _ ?_⟩
      simp only [if_neg c0, if_neg c1, if_pos c2, if_pos hz, e6, Option.bind_some, if_pos (show 0 < (l.length : Int) from hz)]
      exact Ev.now _
    · refine ⟨l, i5, s5, by omega, t4, t5, start _ ?_⟩
      simp only [if_neg c0, if_neg c1, if_pos c2, if_neg hz]
      exact Ev.now _
  by_cases c3 : z = 3
  · obtain ⟨y, i6, s6, e6, y1, y2, _, u1, u2⟩ := l1Below_some b i5 s5 2 hb t4 t5
    have hy := y2 (by omega)
    have ew2 : wrap64 (200 + y) = 200 + y := w64 (by omega) (by omega)
    refine ⟨List.replicate (200 + y).toNat z43, i6, s6, by simp; omega, u1, u2, start _ ?_⟩
    simp only [if_neg c0, if_neg c1, if_neg c2, if_pos c3, e6, Option.bind_some, ew2, if_pos (show 0 ≤ 200 + y by omega), if_pos (show (200 + y).toNat ≤ 11728124029610 by omega)]
    exact Ev.now _
  · refine ⟨l, i5, s5, by omega, t4, t5, start _ ?_⟩
    simp only [if_neg c0, if_neg c1, if_neg c2, if_neg c3]
    exact Ev.now _
/-- The class of the call that stands at an index. -/
def cl (l : List S43) (a : Int) : Int := (rd_T43 l a).f2
/-- The order of the indices: by class, then by index. -/
def Lx (l : List S43) (a b : Int) : Prop := cl l a < cl l b ∨ (cl l a = cl l b ∧ a < b)
def Srt (l : List S43) (xs : List Int) : Prop := xs.Pairwise (Lx l)
def Vd (l : List S43) (xs : List Int) : Prop := ∀ x ∈ xs, 0 ≤ x ∧ x < (l.length : Int)
theorem cmp_some (l : List S43) (a b : Int) (ha : 0 ≤ a ∧ a < (l.length : Int)) (hb : 0 ≤ b ∧ b < (l.length : Int)) : ∃ t, cmp_Less_int.f a b l = some t ∧ (t < 0 ↔ cl l a < cl l b) := by
  simp only [cmp_Less_int.f, if_pos ha.1, if_pos ha.2, if_pos hb.1, if_pos hb.2, cmp_Compare_int.f, cmp_isNaN_int.f, Option.bind_some, bne_self_eq_false, Bool.false_eq_true, if_false]
  change ∃ t, ((if cl l a < cl l b then some (-1) else if cl l a > cl l b then some 1 else some 0 : Option Int).bind fun t105 => some t105) = some t ∧ (t < 0 ↔ cl l a < cl l b)
  by_cases h : cl l a < cl l b
  · rw [if_pos h]; exact ⟨-1, rfl, by omega⟩
  · rw [if_neg h]
    by_cases h2 : cl l a > cl l b
    · rw [if_pos h2]; exact ⟨1, rfl, by omega⟩
    · rw [if_neg h2]; exact ⟨0, rfl, by omega⟩
theorem Lx_le {l : List S43} {a b : Int} (h : Lx l a b) : cl l a ≤ cl l b := by
  rcases h with h | h <;> omega
theorem Lx_of {l : List S43} {a b : Int} (h : cl l a ≤ cl l b) (h2 : a < b) : Lx l a b := by
  by_cases e : cl l a = cl l b
  · exact .inr ⟨e, h2⟩
  · exact .inl (by omega)
theorem Vd_app {l : List S43} {A B : List Int} : Vd l (A ++ B) ↔ Vd l A ∧ Vd l B := by
  unfold Vd
  constructor
  · exact fun h => ⟨fun x hx => h x (List.mem_append_left _ hx), fun x hx => h x (List.mem_append_right _ hx)⟩
  · rintro ⟨h1, h2⟩ x hx
    rcases List.mem_append.mp hx with h | h
    · exact h1 x h
    · exact h2 x h
theorem Vd_cons {l : List S43} {a : Int} {B : List Int} : Vd l (a :: B) ↔ (0 ≤ a ∧ a < (l.length : Int)) ∧ Vd l B := by
  unfold Vd
  simp
theorem rd_at (P : List Int) (x : Int) (S : List Int) (i : Int) (h : i = (P.length : Int)) : rd (P ++ x :: S) i = x := by
  subst h
  simp [rd]
theorem rd_off (P Q : List Int) (i : Int) (h : (P.length : Int) ≤ i) : rd (P ++ Q) i = rd Q (i - (P.length : Int)) := by
  have h2 : P.length ≤ i.toNat := by omega
  simp only [rd, List.getD_eq_getElem?_getD, List.getElem?_append_right h2]
  rw [show i.toNat - P.length = (i - (P.length : Int)).toNat from by omega]
theorem rd_in (P Q : List Int) (i : Int) (h : i < (P.length : Int)) (h0 : 0 ≤ i) : rd (P ++ Q) i = rd P i := rd_map h h0
theorem set_at (P : List Int) (x y : Int) (S : List Int) (i : Int) (h : i = (P.length : Int)) : (P ++ x :: S).set i.toNat y = P ++ y :: S := by
  subst h
  simp
/-- Two elements change places. -/
theorem swap_at (P : List Int) (x : Int) (M : List Int) (y : Int) (S : List Int) (i j : Int) (hi : i = (P.length : Int)) (hj : j = (P.length : Int) + 1 + (M.length : Int)) :
    ((P ++ x :: (M ++ y :: S)).set i.toNat y).set j.toNat x = P ++ y :: (M ++ x :: S) := by
  rw [set_at P x y _ i hi, show P ++ y :: (M ++ y :: S) = (P ++ y :: M) ++ y :: S from by simp, set_at _ y x S j (by simp; omega)]
  simp
theorem swap_at' (P : List Int) (x : Int) (M : List Int) (y : Int) (S : List Int) (i j : Int) (hi : i = (P.length : Int)) (hj : j = (P.length : Int) + 1 + (M.length : Int)) :
    ((P ++ x :: (M ++ y :: S)).set j.toNat x).set i.toNat y = P ++ y :: (M ++ x :: S) := by
  rw [show P ++ x :: (M ++ y :: S) = (P ++ x :: M) ++ y :: S from by simp, set_at _ y x S j (by simp; omega), show (P ++ x :: M) ++ x :: S = P ++ x :: (M ++ x :: S) from by simp, set_at P x y _ i hi]
/-! insertion sort -/
theorem ins1 (l : List S43) (v : Int) (P : List Int) (a b i : Int) (ha : a = (P.length : Int)) (hv : 0 ≤ v ∧ v < (l.length : Int)) (hi0 : 0 ≤ i) (hi1 : i ≤ 1048576) : ∀ (n : Nat) (L1 L2 R : List Int) (j : Int), L1.length = n → Srt l L1 → Vd l L1 → j = (P.length : Int) + (L1.length : Int) → j ≤ 1048576 →
    ∃ A B, L1 = A ++ B ∧ (∀ y ∈ A, cl l y ≤ cl l v) ∧ (∀ y ∈ B, cl l v < cl l y) ∧ ∀ r, Ev (fun k => slices_insertionSortCmpFunc_int.l0 k (P ++ (A ++ v :: B) ++ (L2 ++ R)) a b l (i + 1)) r → Ev (fun k => slices_insertionSortCmpFunc_int.l1 k (P ++ (L1 ++ v :: L2) ++ R) a b l i j) r := by
  have wi : wrap64 (i + 1) = i + 1 := w64 (by omega) (by omega)
  intro n
  induction n with
  | zero =>
    intro L1 L2 R j hn _ _ hj _
    obtain rfl := List.eq_nil_of_length_eq_zero hn
    refine ⟨[], [], rfl, by simp, by simp, fun r h => ev_unroll ?_⟩
    simp only [List.length_nil] at hj
    simp only [slices_insertionSortCmpFunc_int.l1, if_neg (show ¬ j > a by omega), wi]
    simpa using h
  | succ n ih =>
    intro L1 L2 R j hn hs hd hj hj1
    obtain ⟨L', y, rfl⟩ : ∃ L' y, L1 = L' ++ [y] := by
      rcases List.eq_nil_or_concat L1 with h | ⟨L', y, h⟩
      · subst h; simp at hn
      · exact ⟨L', y, by rw [h]; simp⟩
    simp only [List.length_append, List.length_cons, List.length_nil] at hn hj
    have hd' := Vd_app.mp hd
    have hy := (Vd_cons.mp hd'.2).1
    have e1 : rd (P ++ ((L' ++ [y]) ++ v :: L2) ++ R) j = v := by
      rw [show P ++ ((L' ++ [y]) ++ v :: L2) ++ R = (P ++ (L' ++ [y])) ++ v :: (L2 ++ R) from by simp]
      exact rd_at _ _ _ _ (by simp; omega)
    have e2 : rd (P ++ ((L' ++ [y]) ++ v :: L2) ++ R) (j - 1) = y := by
      rw [show P ++ ((L' ++ [y]) ++ v :: L2) ++ R = (P ++ L') ++ y :: (v :: L2 ++ R) from by simp]
      exact rd_at _ _ _ _ (by simp; omega)
    obtain ⟨t, ht, htc⟩ := cmp_some l v y hv hy
    have hlen : (((P ++ ((L' ++ [y]) ++ v :: L2) ++ R).length : Nat) : Int) = (P.length : Int) + (L'.length : Int) + 2 + (L2.length : Int) + (R.length : Int) := by simp; omega
    have hle : ∀ z ∈ L' ++ [y], cl l z ≤ cl l y := by
      intro z hz
      rcases List.mem_append.mp hz with h | h
      · exact Lx_le ((List.pairwise_append.mp hs).2.2 z h y (by simp))
      · simp at h; subst h; omega
    by_cases hc : cl l v < cl l y
    · obtain ⟨A, B, hAB, hA, hB, hk⟩ := ih L' (y :: L2) R (j - 1) (by omega) (List.pairwise_append.mp hs).1 hd'.1 (by omega) (by omega)
      refine ⟨A, B ++ [y], by rw [hAB]; simp, hA, fun z hz => ?_, fun r h => ev_unroll ?_⟩
      · rcases List.mem_append.mp hz with h | h
        · exact hB z h
        · simp at h; subst h; exact hc
      · simp only [slices_insertionSortCmpFunc_int.l1, if_pos (show j > a by omega), w64 (x := j - 1) (by omega) (by omega), if_pos (show 0 ≤ j by omega), hlen, if_pos (show j < (P.length : Int) + (L'.length : Int) + 2 + (L2.length : Int) + (R.length : Int) by omega), if_pos (show 0 ≤ j - 1 by omega), if_pos (show j - 1 < (P.length : Int) + (L'.length : Int) + 2 + (L2.length : Int) + (R.length : Int) by omega), e1, e2, ht, Option.bind_some, if_pos (htc.mpr hc)]
        have e3 : ((P ++ ((L' ++ [y]) ++ v :: L2) ++ R).set j.toNat y).set (j - 1).toNat v = P ++ (L' ++ v :: (y :: L2)) ++ R := by
          have := swap_at' (P ++ L') y [] v (L2 ++ R) (j - 1) j (by simp; omega) (by simp; omega)
          simpa using this
        rw [e3]
        refine hk r ?_
        simpa using h
    · refine ⟨L' ++ [y], [], by simp, fun z hz => by have := hle z hz; omega, by simp, fun r h => ev_unroll ?_⟩
      simp only [slices_insertionSortCmpFunc_int.l1, if_pos (show j > a by omega), w64 (x := j - 1) (by omega) (by omega), if_pos (show 0 ≤ j by omega), hlen, if_pos (show j < (P.length : Int) + (L'.length : Int) + 2 + (L2.length : Int) + (R.length : Int) by omega), if_pos (show 0 ≤ j - 1 by omega), if_pos (show j - 1 < (P.length : Int) + (L'.length : Int) + 2 + (L2.length : Int) + (R.length : Int) by omega), e1, e2, ht, Option.bind_some, if_neg (fun h => hc (htc.mp h)), wi]
      simpa using h
theorem ins0 (l : List S43) (P : List Int) (a b : Int) (ha : a = (P.length : Int)) : ∀ (n : Nat) (L A S : List Int) (i : Int), A.length = n → Srt l L → (∀ x ∈ L, ∀ y ∈ A, x < y) → A.Pairwise (· < ·) → Vd l (L ++ A) → i = (P.length : Int) + (L.length : Int) → b = i + (A.length : Int) → b ≤ 1000000 →
    ∃ W, Srt l W ∧ W.Perm (L ++ A) ∧ Ev (fun k => slices_insertionSortCmpFunc_int.l0 k (P ++ (L ++ A) ++ S) a b l i) (P ++ W ++ S) := by
  intro n
  induction n with
  | zero =>
    intro L A S i hn hs _ _ _ hi hb _
    obtain rfl := List.eq_nil_of_length_eq_zero hn
    refine ⟨L, hs, by simp, ev_unroll ?_⟩
    simp only [List.length_nil] at hb
    simp only [slices_insertionSortCmpFunc_int.l0, if_neg (show ¬ i < b by omega), List.append_nil]
    exact Ev.now _
  | succ n ih =>
    intro L A S i hn hs hx hp hd hi hb hb1
    cases A with
    | nil => simp at hn
    | cons v A =>
      have hd' := Vd_app.mp hd
      have hv := Vd_cons.mp hd'.2
      simp only [List.length_cons] at hn hb
      obtain ⟨B, C, hBC, hB, hC, hk⟩ := ins1 l v P a b i ha hv.1 (by omega) (by omega) L.length L [] (A ++ S) i rfl hs hd'.1 hi (by omega)
      have hs2 : Srt l (B ++ v :: C) := by
        rw [hBC] at hs
        have h := List.pairwise_append.mp hs
        refine List.pairwise_append.mpr ⟨h.1, List.pairwise_cons.mpr ⟨fun y hy => .inl (hC y hy), h.2.1⟩, fun y hy z hz => ?_⟩
        rcases List.mem_cons.mp hz with rfl | hz
        · exact Lx_of (hB y hy) (hx y (by rw [hBC]; exact List.mem_append_left _ hy) _ (by simp))
        · exact h.2.2 y hy z hz
      have hperm : (B ++ v :: C).Perm (v :: L) := by
        rw [hBC]; exact List.perm_middle
      have hmem : ∀ z, z ∈ B ++ v :: C ↔ z = v ∨ z ∈ L := fun z => by rw [hperm.mem_iff, List.mem_cons]
      obtain ⟨W, w1, w2, w3⟩ := ih (B ++ v :: C) A S (i + 1) (by omega) hs2 (fun x hx' y hy => by
          rcases (hmem x).mp hx' with rfl | h
          · exact (List.pairwise_cons.mp hp).1 y hy
          · exact hx x h y (by simp [hy])) (List.pairwise_cons.mp hp).2 (Vd_app.mpr ⟨fun z hz => by
          rcases (hmem z).mp hz with rfl | h
          · exact hv.1
          · exact hd'.1 z h, hv.2⟩) (by have := hperm.length_eq; simp only [List.length_cons] at this; omega) (by omega) hb1
      refine ⟨W, w1, w2.trans ?_, ev_unroll ?_⟩
      · refine (List.Perm.append_right A hperm).trans ?_
        simp only [List.cons_append]
        exact List.perm_middle.symm
      · simp only [slices_insertionSortCmpFunc_int.l0, if_pos (show i < b by omega)]
        have h := hk (P ++ W ++ S) (by simpa using w3)
        simpa using h
theorem ins_ev (l : List S43) (P A S : List Int) (a b : Int) (ha : a = (P.length : Int)) (hb : b = a + (A.length : Int)) (hb1 : b ≤ 1000000) (hp : A.Pairwise (· < ·)) (hd : Vd l A) :
    ∃ W, Srt l W ∧ W.Perm A ∧ Ev (fun k => slices_insertionSortCmpFunc_int.f k (P ++ A ++ S) a b l) (P ++ W ++ S) := by
  have wa : wrap64 (a + 1) = a + 1 := w64 (by omega) (by omega)
  simp only [slices_insertionSortCmpFunc_int.f, wa]
  cases A with
  | nil =>
    refine ⟨[], .nil, by simp, ev_unroll ?_⟩
    simp only [List.length_nil] at hb
    simp only [slices_insertionSortCmpFunc_int.l0, if_neg (show ¬ a + 1 < b by omega)]
    exact Ev.now _
  | cons v A =>
    simp only [List.length_cons] at hb
    have h := ins0 l P a b ha A.length [v] A S (a + 1) rfl (List.pairwise_singleton _ _) (fun x hx y hy => by simp at hx; subst hx; exact (List.pairwise_cons.mp hp).1 y hy) (List.pairwise_cons.mp hp).2 (by simpa using hd) (by simp; omega) (by omega) hb1
    simpa using h
/-! rotation -/
theorem swapR (l : List S43) (m : Int) : ∀ (n : Nat) (P Y1 X2 M X1 Y2 S : List Int) (a b i : Int), X2.length = n → Y2.length = n → X1.length = Y1.length → a = (P.length : Int) → b = (P.length : Int) + (Y1.length : Int) + (X2.length : Int) + (M.length : Int) → i = (Y1.length : Int) → m = i + (n : Int) → b + m ≤ 1000000 →
    Ev (fun k => slices_swapRangeCmpFunc_int.l0 k (P ++ (Y1 ++ (X2 ++ (M ++ (X1 ++ (Y2 ++ S)))))) a b m i) (P ++ (Y1 ++ (Y2 ++ (M ++ (X1 ++ (X2 ++ S)))))) := by
  intro n
  induction n with
  | zero =>
    intro P Y1 X2 M X1 Y2 S a b i hx hy _ _ _ hi hm _
    obtain rfl := List.eq_nil_of_length_eq_zero hx
    obtain rfl := List.eq_nil_of_length_eq_zero hy
    refine ev_unroll ?_
    simp only [slices_swapRangeCmpFunc_int.l0, if_neg (show ¬ i < m by omega)]
    exact Ev.now _
  | succ n ih =>
    intro P Y1 X2 M X1 Y2 S a b i hx hy h11 ha hb hi hm hbm
    cases X2 with
    | nil => simp at hx
    | cons x X2 =>
    cases Y2 with
    | nil => simp at hy
    | cons y Y2 =>
    simp only [List.length_cons] at hx hy hb
    have e1 : rd (P ++ (Y1 ++ (x :: X2 ++ (M ++ (X1 ++ (y :: Y2 ++ S)))))) (a + i) = x := by
      rw [show P ++ (Y1 ++ (x :: X2 ++ (M ++ (X1 ++ (y :: Y2 ++ S))))) = (P ++ Y1) ++ x :: (X2 ++ (M ++ (X1 ++ (y :: Y2 ++ S)))) from by simp]
      exact rd_at _ _ _ _ (by simp; omega)
    have e2 : rd (P ++ (Y1 ++ (x :: X2 ++ (M ++ (X1 ++ (y :: Y2 ++ S)))))) (b + i) = y := by
      rw [show P ++ (Y1 ++ (x :: X2 ++ (M ++ (X1 ++ (y :: Y2 ++ S))))) = (P ++ Y1 ++ x :: (X2 ++ M ++ X1)) ++ y :: (Y2 ++ S) from by simp]
      exact rd_at _ _ _ _ (by simp; omega)
    have hlen : (((P ++ (Y1 ++ (x :: X2 ++ (M ++ (X1 ++ (y :: Y2 ++ S))))) : List Int).length : Nat) : Int) = (P.length : Int) + (Y1.length : Int) + (X2.length : Int) + 1 + (M.length : Int) + (X1.length : Int) + 1 + (Y2.length : Int) + (S.length : Int) := by simp; omega
    refine ev_unroll ?_
    simp only [slices_swapRangeCmpFunc_int.l0, if_pos (show i < m by omega), w64 (x := a + i) (by omega) (by omega), w64 (x := b + i) (by omega) (by omega), w64 (x := i + 1) (by omega) (by omega), hlen, if_pos (show 0 ≤ b + i by omega), if_pos (show 0 ≤ a + i by omega),
      if_pos (show b + i < (P.length : Int) + (Y1.length : Int) + (X2.length : Int) + 1 + (M.length : Int) + (X1.length : Int) + 1 + (Y2.length : Int) + (S.length : Int) by omega),
      if_pos (show a + i < (P.length : Int) + (Y1.length : Int) + (X2.length : Int) + 1 + (M.length : Int) + (X1.length : Int) + 1 + (Y2.length : Int) + (S.length : Int) by omega), e1, e2]
    have e3 := swap_at (P ++ Y1) x (X2 ++ M ++ X1) y (Y2 ++ S) (a + i) (b + i) (by simp; omega) (by simp; omega)
    rw [show P ++ (Y1 ++ (x :: X2 ++ (M ++ (X1 ++ (y :: Y2 ++ S))))) = (P ++ Y1) ++ x :: ((X2 ++ M ++ X1) ++ y :: (Y2 ++ S)) from by simp, e3]
    have h := ih P (Y1 ++ [y]) X2 M (X1 ++ [x]) Y2 S a b (i + 1) (by omega) (by omega) (by simp; omega) ha (by simp; omega) (by simp; omega) (by omega) hbm
    simpa using h
theorem swap_ev (l : List S43) (P X M Y S : List Int) (a b m : Int) (ha : a = (P.length : Int)) (hb : b = (P.length : Int) + (X.length : Int) + (M.length : Int)) (hm : m = (X.length : Int)) (hm2 : m = (Y.length : Int)) (hbm : b + m ≤ 1000000) :
    Ev (fun k => slices_swapRangeCmpFunc_int.f k (P ++ (X ++ (M ++ (Y ++ S)))) a b m l) (P ++ (Y ++ (M ++ (X ++ S)))) := by
  have h := swapR l m X.length P [] X M [] Y S a b 0 rfl (by omega) rfl ha (by simp; omega) rfl (by omega) hbm
  simpa [slices_swapRangeCmpFunc_int.f] using h
theorem rot0 (l : List S43) (m : Int) : ∀ (d : Nat) (P X Y S : List Int) (i j : Int), X.length + Y.length ≤ d → X ≠ [] → Y ≠ [] → m = (P.length : Int) + (X.length : Int) → i = (X.length : Int) → j = (Y.length : Int) → m + j ≤ 500000 →
    Ev (fun k => slices_rotateCmpFunc_int.l0 k (P ++ (X ++ (Y ++ S))) m l i j) (P ++ (Y ++ (X ++ S))) := by
  intro d
  induction d with
  | zero =>
    intro P X Y S i j h hx
    exact absurd (List.eq_nil_of_length_eq_zero (by omega)) hx
  | succ d ih =>
    intro P X Y S i j h hx hy hm hi hj hmj
    have lx : 0 < X.length := List.length_pos_iff.mpr hx
    have ly : 0 < Y.length := List.length_pos_iff.mpr hy
    refine ev_unroll ?_
    simp only [slices_rotateCmpFunc_int.l0, w64 (x := m - i) (by omega) (by omega), w64 (x := i - j) (by omega) (by omega), w64 (x := j - i) (by omega) (by omega), w64 (x := m + j) (by omega) (by omega), w64 (x := m + j - i) (by omega) (by omega)]
    by_cases h1 : i = j
    · simp only [if_pos h1]
      have := swap_ev l P X [] Y S (m - i) m i (by omega) (by simp; omega) hi (by omega) (by omega)
      refine Ev.bind (by simpa using this) ?_
      exact Ev.now _
    simp only [if_neg h1]
    by_cases h2 : i > j
    · simp only [if_pos h2]
      obtain ⟨X1, X2, rfl, l1⟩ : ∃ X1 X2, X = X1 ++ X2 ∧ X1.length = Y.length := ⟨X.take Y.length, X.drop Y.length, by simp, by simp; omega⟩
      simp only [List.length_append] at h lx hm hi
      have s1 := swap_ev l P X1 X2 Y S (m - i) m j (by omega) (by omega) (by omega) hj (by omega)
      refine Ev.bind (by simpa using s1) ?_
      have hx2 : X2 ≠ [] := by intro e; subst e; simp at hi; omega
      have hx1 : X1 ≠ [] := by intro e; subst e; simp at l1; omega
      have h3 := ih (P ++ Y) X2 X1 S (i - j) j (by omega) hx2 hx1 (by simp; omega) (by omega) (by omega) (by omega)
      simpa using h3
    · simp only [if_neg h2]
      obtain ⟨Y1, Y2, rfl, l1⟩ : ∃ Y1 Y2, Y = Y1 ++ Y2 ∧ Y2.length = X.length := ⟨Y.take (Y.length - X.length), Y.drop (Y.length - X.length), by simp, by simp; omega⟩
      simp only [List.length_append] at h ly hj
      have s1 := swap_ev l P X Y1 Y2 S (m - i) (m + j - i) i (by omega) (by omega) (by omega) (by omega) (by omega)
      refine Ev.bind (by simpa using s1) ?_
      have hy1 : Y1 ≠ [] := by intro e; subst e; simp at hj; omega
      have hy2 : Y2 ≠ [] := by intro e; subst e; simp at l1; omega
      have h3 := ih P Y2 Y1 (X ++ S) i (j - i) (by omega) hy2 hy1 (by omega) (by omega) (by omega) (by omega)
      simpa using h3
theorem rot_ev (l : List S43) (P X Y S : List Int) (a m b : Int) (hx : X ≠ []) (hy : Y ≠ []) (ha : a = (P.length : Int)) (hm : m = a + (X.length : Int)) (hb : b = m + (Y.length : Int)) (hb1 : b ≤ 500000) :
    Ev (fun k => slices_rotateCmpFunc_int.f k (P ++ (X ++ (Y ++ S))) a m b l) (P ++ (Y ++ (X ++ S))) := by
  simp only [slices_rotateCmpFunc_int.f, w64 (x := m - a) (by omega) (by omega), w64 (x := b - m) (by omega) (by omega)]
  exact rot0 l m _ P X Y S _ _ (Nat.le_refl _) hx hy (by omega) (by omega) (by omega) (by omega)
theorem half_w {i j : Int} (h0 : 0 ≤ i) (h1 : i ≤ j) (h2 : j ≤ 1000000) : wrap64 (IntKind.u64.wrap (wrap64 (i + j)) / 2) = (i + j) / 2 := by
  rw [w64 (x := i + j) (by omega) (by omega), Go.IntKind.wrap_u64]
  rw [w64 (by omega) (by omega)]
  omega
theorem mem_take_rd {V : List Int} {n : Nat} {y : Int} (h : y ∈ V.take n) : ∃ q : Int, 0 ≤ q ∧ q < (n : Int) ∧ q < (V.length : Int) ∧ rd V q = y := by
  obtain ⟨i, hi, e⟩ := List.mem_iff_getElem.mp h
  simp only [List.length_take] at hi
  refine ⟨(i : Int), by omega, by omega, by omega, ?_⟩
  rw [List.getElem_take] at e
  simp [rd, ← e, show i < V.length from by omega]
theorem mem_drop_rd {V : List Int} {n : Nat} {y : Int} (h : y ∈ V.drop n) : ∃ q : Int, (n : Int) ≤ q ∧ q < (V.length : Int) ∧ rd V q = y := by
  obtain ⟨i, hi, e⟩ := List.mem_iff_getElem.mp h
  simp only [List.length_drop] at hi
  refine ⟨((n + i : Nat) : Int), by omega, by omega, ?_⟩
  rw [List.getElem_drop] at e
  unfold rd
  rw [Int.toNat_natCast]
  simp [← e, show n + i < V.length from by omega]
theorem srt_le {l : List S43} {V : List Int} (h : Srt l V) (p q : Int) (h0 : 0 ≤ p) (h1 : p ≤ q) (h2 : q < (V.length : Int)) : cl l (rd V p) ≤ cl l (rd V q) := by
  obtain ⟨a, rfl⟩ := Int.eq_ofNat_of_zero_le h0
  obtain ⟨b, rfl⟩ := Int.eq_ofNat_of_zero_le (show 0 ≤ q by omega)
  by_cases e : a = b
  · subst e; omega
  have h3 := List.pairwise_iff_getElem.mp h a b (by omega) (by omega) (by omega)
  have := Lx_le h3
  simpa [rd, show a < V.length from by omega, show b < V.length from by omega] using this
theorem vd_rd {l : List S43} {V : List Int} (h : Vd l V) (p : Int) (h0 : 0 ≤ p) (h1 : p < (V.length : Int)) : 0 ≤ rd V p ∧ rd V p < (l.length : Int) := h _ (rd_mem h0 h1)
theorem bs0 (l : List S43) (x : List Int) (a lo hi : Int) (ha : 0 ≤ a ∧ a < (x.length : Int)) (hva : 0 ≤ rd x a ∧ rd x a < (l.length : Int)) (h0 : 0 ≤ lo) (h1 : hi ≤ (x.length : Int)) (hh : hi ≤ 1000000)
    (hv : ∀ q, lo ≤ q → q < hi → 0 ≤ rd x q ∧ rd x q < (l.length : Int)) (hm : ∀ p q, lo ≤ p → p ≤ q → q < hi → cl l (rd x p) ≤ cl l (rd x q)) : ∀ (d : Nat) (i j : Int), j - i ≤ d → lo ≤ i → i ≤ j → j ≤ hi →
    (∀ q, lo ≤ q → q < i → cl l (rd x q) < cl l (rd x a)) → (∀ q, j ≤ q → q < hi → ¬ cl l (rd x q) < cl l (rd x a)) →
    ∃ s, lo ≤ s ∧ s ≤ hi ∧ (∀ q, lo ≤ q → q < s → cl l (rd x q) < cl l (rd x a)) ∧ (∀ q, s ≤ q → q < hi → ¬ cl l (rd x q) < cl l (rd x a)) ∧ ∀ r, Ev (fun k => slices_symMergeCmpFunc_int.l1 k x s a) r → Ev (fun k => slices_symMergeCmpFunc_int.l0 k x a l i j) r := by
  intro d
  induction d with
  | zero =>
    intro i j hd hi1 hij hj hA hB
    refine ⟨i, hi1, by omega, hA, fun q hq => hB q (by omega), fun r h => ev_unroll ?_⟩
    simp only [slices_symMergeCmpFunc_int.l0, if_neg (show ¬ i < j by omega)]
    exact h
  | succ d ih =>
    intro i j hd hi1 hij hj hA hB
    by_cases e : i < j
    · have hw := half_w (i := i) (j := j) (by omega) (by omega) (by omega)
      have hc1 : i ≤ (i + j) / 2 := by omega
      have hc2 : (i + j) / 2 < j := by omega
      generalize (i + j) / 2 = c at hw hc1 hc2
      obtain ⟨t, ht, htc⟩ := cmp_some l (rd x c) (rd x a) (hv c (by omega) (by omega)) hva
      by_cases hp : cl l (rd x c) < cl l (rd x a)
      · obtain ⟨s, s1, s2, s3, s4, s5⟩ := ih (c + 1) j (by omega) (by omega) (by omega) hj (fun q hq1 hq2 => by have := hm q c hq1 (by omega) (by omega); omega) hB
        refine ⟨s, s1, s2, s3, s4, fun r h => ev_unroll ?_⟩
        simp only [slices_symMergeCmpFunc_int.l0, if_pos e, hw, if_pos (show 0 ≤ c by omega), if_pos (show c < (x.length : Int) by omega), if_pos ha.1, if_pos ha.2, ht, Option.bind_some, if_pos (htc.mpr hp), w64 (x := c + 1) (by omega) (by omega)]
        exact s5 r h
      · obtain ⟨s, s1, s2, s3, s4, s5⟩ := ih i c (by omega) (by omega) (by omega) (by omega) hA (fun q hq1 hq2 => by have := hm c q (by omega) (by omega) (by omega); omega)
        refine ⟨s, s1, s2, s3, s4, fun r h => ev_unroll ?_⟩
        simp only [slices_symMergeCmpFunc_int.l0, if_pos e, hw, if_pos (show 0 ≤ c by omega), if_pos (show c < (x.length : Int) by omega), if_pos ha.1, if_pos ha.2, ht, Option.bind_some, if_neg (fun h => hp (htc.mp h))]
        exact s5 r h
    · refine ⟨i, hi1, by omega, hA, fun q hq => hB q (by omega), fun r h => ev_unroll ?_⟩
      simp only [slices_symMergeCmpFunc_int.l0, if_neg e]
      exact h
theorem bs2 (l : List S43) (x : List Int) (a lo hi : Int) (ha : 0 ≤ a ∧ a < (x.length : Int)) (hva : 0 ≤ rd x a ∧ rd x a < (l.length : Int)) (h0 : 0 ≤ lo) (h1 : hi ≤ (x.length : Int)) (hh : hi ≤ 1000000)
    (hv : ∀ q, lo ≤ q → q < hi → 0 ≤ rd x q ∧ rd x q < (l.length : Int)) (hm : ∀ p q, lo ≤ p → p ≤ q → q < hi → cl l (rd x p) ≤ cl l (rd x q)) : ∀ (d : Nat) (i j : Int), j - i ≤ d → lo ≤ i → i ≤ j → j ≤ hi →
    (∀ q, lo ≤ q → q < i → ¬ cl l (rd x a) < cl l (rd x q)) → (∀ q, j ≤ q → q < hi → cl l (rd x a) < cl l (rd x q)) →
    ∃ s, lo ≤ s ∧ s ≤ hi ∧ (∀ q, lo ≤ q → q < s → ¬ cl l (rd x a) < cl l (rd x q)) ∧ (∀ q, s ≤ q → q < hi → cl l (rd x a) < cl l (rd x q)) ∧ ∀ r, Ev (fun k => slices_symMergeCmpFunc_int.l3 k x s a) r → Ev (fun k => slices_symMergeCmpFunc_int.l2 k x a l i j) r := by
  intro d
  induction d with
  | zero =>
    intro i j hd hi1 hij hj hA hB
    refine ⟨i, hi1, by omega, hA, fun q hq => hB q (by omega), fun r h => ev_unroll ?_⟩
    simp only [slices_symMergeCmpFunc_int.l2, if_neg (show ¬ i < j by omega)]
    exact h
  | succ d ih =>
    intro i j hd hi1 hij hj hA hB
    by_cases e : i < j
    · have hw := half_w (i := i) (j := j) (by omega) (by omega) (by omega)
      have hc1 : i ≤ (i + j) / 2 := by omega
      have hc2 : (i + j) / 2 < j := by omega
      generalize (i + j) / 2 = c at hw hc1 hc2
      obtain ⟨t, ht, htc⟩ := cmp_some l (rd x a) (rd x c) hva (hv c (by omega) (by omega))
      by_cases hp : cl l (rd x a) < cl l (rd x c)
      · obtain ⟨s, s1, s2, s3, s4, s5⟩ := ih i c (by omega) (by omega) (by omega) (by omega) hA (fun q hq1 hq2 => by have := hm c q (by omega) (by omega) (by omega); omega)
        refine ⟨s, s1, s2, s3, s4, fun r h => ev_unroll ?_⟩
        simp only [slices_symMergeCmpFunc_int.l2, if_pos e, hw, if_pos (show 0 ≤ c by omega), if_pos (show c < (x.length : Int) by omega), if_pos ha.1, if_pos ha.2, ht, Option.bind_some, if_pos (htc.mpr hp)]
        exact s5 r h
      · obtain ⟨s, s1, s2, s3, s4, s5⟩ := ih (c + 1) j (by omega) (by omega) (by omega) hj (fun q hq1 hq2 => by have := hm q c hq1 (by omega) (by omega); omega) hB
        refine ⟨s, s1, s2, s3, s4, fun r h => ev_unroll ?_⟩
        simp only [slices_symMergeCmpFunc_int.l2, if_pos e, hw, if_pos (show 0 ≤ c by omega), if_pos (show c < (x.length : Int) by omega), if_pos ha.1, if_pos ha.2, ht, Option.bind_some, if_neg (fun h => hp (htc.mp h)), w64 (x := c + 1) (by omega) (by omega)]
        exact s5 r h
    · refine ⟨i, hi1, by omega, hA, fun q hq => hB q (by omega), fun r h => ev_unroll ?_⟩
      simp only [slices_symMergeCmpFunc_int.l2, if_neg e]
      exact h
theorem bs4 (l : List S43) (x : List Int) (a m b mid n p lo hi : Int) (h0 : 0 ≤ lo) (h1 : hi ≤ (x.length : Int)) (hh : hi ≤ 1000000) (hp0 : hi - 1 ≤ p) (hp1 : p - lo < (x.length : Int)) (hp2 : p ≤ 1000000)
    (hv : ∀ q, lo ≤ q → q < hi → (0 ≤ rd x q ∧ rd x q < (l.length : Int)) ∧ (0 ≤ rd x (p - q) ∧ rd x (p - q) < (l.length : Int)))
    (hm : ∀ q q', lo ≤ q → q ≤ q' → q' < hi → cl l (rd x q) ≤ cl l (rd x q') ∧ cl l (rd x (p - q')) ≤ cl l (rd x (p - q))) : ∀ (d : Nat) (i j : Int), j - i ≤ d → lo ≤ i → i ≤ j → j ≤ hi →
    (∀ q, lo ≤ q → q < i → ¬ cl l (rd x (p - q)) < cl l (rd x q)) → (∀ q, j ≤ q → q < hi → cl l (rd x (p - q)) < cl l (rd x q)) →
    ∃ s, lo ≤ s ∧ s ≤ hi ∧ (∀ q, lo ≤ q → q < s → ¬ cl l (rd x (p - q)) < cl l (rd x q)) ∧ (∀ q, s ≤ q → q < hi → cl l (rd x (p - q)) < cl l (rd x q)) ∧
      ∀ r, Ev (fun k => if s < m then slices_symMergeCmpFunc_int.j6 k x a m b l mid s (wrap64 (n - s)) (decide (m < wrap64 (n - s))) else slices_symMergeCmpFunc_int.j6 k x a m b l mid s (wrap64 (n - s)) false) r → ∀ j0 : Int, j0 = j → Ev (fun k => slices_symMergeCmpFunc_int.l4 k x a m b l mid n i j0 p) r := by
  intro d
  induction d with
  | zero =>
    intro i j hd hi1 hij hj hA hB
    refine ⟨i, hi1, by omega, hA, fun q hq => hB q (by omega), fun r h j0 hj0 => ev_unroll ?_⟩
    simp only [slices_symMergeCmpFunc_int.l4, if_neg (show ¬ i < j0 by omega)]
    exact h
  | succ d ih =>
    intro i j hd hi1 hij hj hA hB
    by_cases e : i < j
    · have hw := half_w (i := i) (j := j) (by omega) (by omega) (by omega)
      have hc1 : i ≤ (i + j) / 2 := by omega
      have hc2 : (i + j) / 2 < j := by omega
      generalize (i + j) / 2 = c at hw hc1 hc2
      have hvc := hv c (by omega) (by omega)
      obtain ⟨t, ht, htc⟩ := cmp_some l (rd x (p - c)) (rd x c) hvc.2 hvc.1
      by_cases hp : cl l (rd x (p - c)) < cl l (rd x c)
      · obtain ⟨s, s1, s2, s3, s4, s5⟩ := ih i c (by omega) (by omega) (by omega) (by omega) hA (fun q hq1 hq2 => by have := hm c q (by omega) (by omega) (by omega); omega)
        refine ⟨s, s1, s2, s3, s4, fun r h j0 hj0 => ev_unroll ?_⟩
        subst hj0
        simp only [slices_symMergeCmpFunc_int.l4, if_pos e, hw, w64 (x := p - c) (by omega) (by omega), if_pos (show 0 ≤ p - c by omega), if_pos (show p - c < (x.length : Int) by omega), if_pos (show 0 ≤ c by omega), if_pos (show c < (x.length : Int) by omega), ht, Option.bind_some, if_pos (htc.mpr hp)]
        exact s5 r h c rfl
      · obtain ⟨s, s1, s2, s3, s4, s5⟩ := ih (c + 1) j (by omega) (by omega) (by omega) hj (fun q hq1 hq2 => by have := hm q c hq1 (by omega) (by omega); omega) hB
        refine ⟨s, s1, s2, s3, s4, fun r h j0 hj0 => ev_unroll ?_⟩
        subst hj0
        simp only [slices_symMergeCmpFunc_int.l4, if_pos e, hw, w64 (x := p - c) (by omega) (by omega), if_pos (show 0 ≤ p - c by omega), if_pos (show p - c < (x.length : Int) by omega), if_pos (show 0 ≤ c by omega), if_pos (show c < (x.length : Int) by omega), ht, Option.bind_some, if_neg (fun h => hp (htc.mp h)), w64 (x := c + 1) (by omega) (by omega)]
        exact s5 r h j0 rfl
    · refine ⟨i, hi1, by omega, hA, fun q hq => hB q (by omega), fun r h j0 hj0 => ev_unroll ?_⟩
      simp only [slices_symMergeCmpFunc_int.l4, if_neg (show ¬ i < j0 by omega)]
      exact h
theorem bub1 (u i : Int) : ∀ (V P S : List Int) (k : Int), k = (P.length : Int) → i = k + 1 + (V.length : Int) → i ≤ 1000000 → Ev (fun n => slices_symMergeCmpFunc_int.l1 n (P ++ (u :: (V ++ S))) i k) (P ++ (V ++ (u :: S))) := by
  intro V
  induction V with
  | nil =>
    intro P S k hk hi h1
    simp only [List.length_nil] at hi
    refine ev_unroll ?_
    simp only [slices_symMergeCmpFunc_int.l1, w64 (x := i - 1) (by omega) (by omega), if_neg (show ¬ k < i - 1 by omega)]
    exact Ev.now _
  | cons v V ih =>
    intro P S k hk hi h1
    simp only [List.length_cons] at hi
    have e1 : rd (P ++ (u :: (v :: V ++ S))) k = u := rd_at _ _ _ _ hk
    have e2 : rd (P ++ (u :: (v :: V ++ S))) (k + 1) = v := by
      rw [show P ++ (u :: (v :: V ++ S)) = (P ++ [u]) ++ v :: (V ++ S) from by simp]
      exact rd_at _ _ _ _ (by simp; omega)
    have hlen : (((P ++ (u :: (v :: V ++ S)) : List Int).length : Nat) : Int) = (P.length : Int) + 2 + (V.length : Int) + (S.length : Int) := by simp; omega
    refine ev_unroll ?_
    simp only [slices_symMergeCmpFunc_int.l1, w64 (x := i - 1) (by omega) (by omega), w64 (x := k + 1) (by omega) (by omega), if_pos (show k < i - 1 by omega), if_pos (show 0 ≤ k + 1 by omega), if_pos (show 0 ≤ k by omega), hlen, if_pos (show k + 1 < (P.length : Int) + 2 + (V.length : Int) + (S.length : Int) by omega), if_pos (show k < (P.length : Int) + 2 + (V.length : Int) + (S.length : Int) by omega), e1, e2]
    have e3 := swap_at P u [] v (V ++ S) k (k + 1) hk (by simp; omega)
    rw [show P ++ (u :: (v :: V ++ S)) = P ++ u :: ([] ++ v :: (V ++ S)) from by simp, e3]
    have h := ih (P ++ [v]) S (k + 1) (by simp; omega) (by omega) h1
    simpa using h
theorem bub3 (u : Int) : ∀ (n : Nat) (U P S : List Int) (i k : Int), U.length = n → i = (P.length : Int) → k = i + (U.length : Int) → k ≤ 1000000 → Ev (fun q => slices_symMergeCmpFunc_int.l3 q (P ++ (U ++ (u :: S))) i k) (P ++ (u :: (U ++ S))) := by
  intro n
  induction n with
  | zero =>
    intro U P S i k hn hi hk h1
    obtain rfl := List.eq_nil_of_length_eq_zero hn
    simp only [List.length_nil] at hk
    refine ev_unroll ?_
    simp only [slices_symMergeCmpFunc_int.l3, if_neg (show ¬ k > i by omega)]
    exact Ev.now _
  | succ n ih =>
    intro U P S i k hn hi hk h1
    obtain ⟨U, y, rfl⟩ : ∃ L' y, U = L' ++ [y] := by
      rcases List.eq_nil_or_concat U with h | ⟨L', y, h⟩
      · subst h; simp at hn
      · exact ⟨L', y, by rw [h]; simp⟩
    simp only [List.length_append, List.length_cons, List.length_nil] at hn hk
    have e1 : rd (P ++ ((U ++ [y]) ++ (u :: S))) k = u := by
      rw [show P ++ ((U ++ [y]) ++ (u :: S)) = (P ++ (U ++ [y])) ++ u :: S from by simp]
      exact rd_at _ _ _ _ (by simp; omega)
    have e2 : rd (P ++ ((U ++ [y]) ++ (u :: S))) (k - 1) = y := by
      rw [show P ++ ((U ++ [y]) ++ (u :: S)) = (P ++ U) ++ y :: (u :: S) from by simp]
      exact rd_at _ _ _ _ (by simp; omega)
    have hlen : (((P ++ ((U ++ [y]) ++ (u :: S)) : List Int).length : Nat) : Int) = (P.length : Int) + 2 + (U.length : Int) + (S.length : Int) := by simp; omega
    refine ev_unroll ?_
    simp only [slices_symMergeCmpFunc_int.l3, w64 (x := k - 1) (by omega) (by omega), if_pos (show k > i by omega), if_pos (show 0 ≤ k - 1 by omega), if_pos (show 0 ≤ k by omega), hlen, if_pos (show k - 1 < (P.length : Int) + 2 + (U.length : Int) + (S.length : Int) by omega), if_pos (show k < (P.length : Int) + 2 + (U.length : Int) + (S.length : Int) by omega), e1, e2]
    have e3 := swap_at' (P ++ U) y [] u S (k - 1) k (by simp; omega) (by simp; omega)
    rw [show P ++ ((U ++ [y]) ++ (u :: S)) = (P ++ U) ++ y :: ([] ++ u :: S) from by simp, e3]
    have h := ih U P (y :: S) i (k - 1) (by omega) hi (by omega) (by omega)
    simpa using h
theorem take_ne {V : List Int} {n : Nat} (h : V.take n ≠ []) : 0 < n := by
  rcases Nat.eq_zero_or_pos n with h0 | h0
  · subst h0; simp at h
  · exact h0
/-- What the two halves' merges come to. -/
theorem tail_ev (l : List S43) (P U1 U2 V1 V2 S : List Int) (a m b mid s e : Int) (ha : a = (P.length : Int)) (hs : s = a + (U1.length : Int)) (hm : m = s + (U2.length : Int)) (he : e = m + (V1.length : Int)) (hb : b = e + (V2.length : Int)) (hmid : mid = s + (V1.length : Int)) (hb1 : b ≤ 500000)
    (IH : ∀ (P' A B S' : List Int) (a' m' b' : Int), A.length + B.length < U1.length + U2.length + V1.length + V2.length → A ≠ [] → B ≠ [] → a' = (P'.length : Int) → m' = a' + (A.length : Int) → b' = m' + (B.length : Int) → b' ≤ 500000 → Srt l A → Srt l B → (∀ x ∈ A, ∀ y ∈ B, x < y) → Vd l (A ++ B) →
      ∃ W, Srt l W ∧ W.Perm (A ++ B) ∧ Ev (fun k => slices_symMergeCmpFunc_int.f k (P' ++ (A ++ (B ++ S'))) a' m' b' l) (P' ++ (W ++ S')))
    (hU : Srt l (U1 ++ U2)) (hV : Srt l (V1 ++ V2)) (hx : ∀ x ∈ U1 ++ U2, ∀ y ∈ V1 ++ V2, x < y) (hd : Vd l ((U1 ++ U2) ++ (V1 ++ V2)))
    (hn1 : 0 < U1.length + V1.length) (hn2 : 0 < U2.length + V2.length)
    (h12 : ∀ x ∈ U1, ∀ y ∈ V2, Lx l x y) (h21 : ∀ x ∈ V1, ∀ y ∈ U2, Lx l x y) :
    ∃ W, Srt l W ∧ W.Perm ((U1 ++ U2) ++ (V1 ++ V2)) ∧ Ev (fun k => if s < m then slices_symMergeCmpFunc_int.j6 k (P ++ ((U1 ++ U2) ++ ((V1 ++ V2) ++ S))) a m b l mid s e (decide (m < e)) else slices_symMergeCmpFunc_int.j6 k (P ++ ((U1 ++ U2) ++ ((V1 ++ V2) ++ S))) a m b l mid s e false) (P ++ (W ++ S)) := by
  have hU' := List.pairwise_append.mp hU
  have hV' := List.pairwise_append.mp hV
  have hd1 := Vd_app.mp hd
  have hdU := Vd_app.mp hd1.1
  have hdV := Vd_app.mp hd1.2
  obtain ⟨W1, a1, a2, a3⟩ : ∃ W1, Srt l W1 ∧ W1.Perm (U1 ++ V1) ∧ ((W1 = U1 ++ V1 ∧ ¬ (a < s ∧ s < mid)) ∨ ((a < s ∧ s < mid) ∧ Ev (fun k => slices_symMergeCmpFunc_int.f k (P ++ (U1 ++ (V1 ++ (U2 ++ (V2 ++ S))))) a s mid l) (P ++ (W1 ++ (U2 ++ (V2 ++ S)))))) := by
    by_cases h1 : a < s
    · by_cases h2 : s < mid
      · obtain ⟨W, w1, w2, w3⟩ := IH P U1 V1 (U2 ++ (V2 ++ S)) a s mid (by omega) (by intro e0; subst e0; simp at hs; omega) (by intro e0; subst e0; simp at hmid; omega) ha hs hmid (by omega) hU'.1 hV'.1 (fun x h y h' => hx x (List.mem_append_left _ h) y (List.mem_append_left _ h')) (Vd_app.mpr ⟨hdU.1, hdV.1⟩)
        exact ⟨W, w1, w2, (.inr ⟨⟨h1, h2⟩, w3⟩)⟩
      · have e0 : V1 = [] := List.eq_nil_of_length_eq_zero (by omega)
        subst e0
        exact ⟨U1 ++ [], by simpa [Srt] using hU'.1, .refl _, (.inl ⟨rfl, by omega⟩)⟩
    · have e0 : U1 = [] := List.eq_nil_of_length_eq_zero (by omega)
      subst e0
      exact ⟨[] ++ V1, by simpa [Srt] using hV'.1, .refl _, (.inl ⟨rfl, by omega⟩)⟩
  have hw1 : (W1.length : Int) = (U1.length : Int) + (V1.length : Int) := by have := a2.length_eq; simp only [List.length_append] at this; omega
  obtain ⟨W2, b1, b2, b3⟩ : ∃ W2, Srt l W2 ∧ W2.Perm (U2 ++ V2) ∧ ((W2 = U2 ++ V2 ∧ ¬ (mid < e ∧ e < b)) ∨ ((mid < e ∧ e < b) ∧ Ev (fun k => slices_symMergeCmpFunc_int.f k (P ++ (W1 ++ (U2 ++ (V2 ++ S)))) mid e b l) (P ++ (W1 ++ (W2 ++ S))))) := by
    by_cases h1 : mid < e
    · by_cases h2 : e < b
      · obtain ⟨W, w1, w2, w3⟩ := IH (P ++ W1) U2 V2 S mid e b (by omega) (by intro e0; subst e0; simp at hm; omega) (by intro e0; subst e0; simp at hb; omega) (by simp; omega) (by omega) hb (by omega) hU'.2.1 hV'.2.1 (fun x h y h' => hx x (List.mem_append_right _ h) y (List.mem_append_right _ h')) (Vd_app.mpr ⟨hdU.2, hdV.2⟩)
        exact ⟨W, w1, w2, .inr ⟨⟨h1, h2⟩, by simpa using w3⟩⟩
      · have e0 : V2 = [] := List.eq_nil_of_length_eq_zero (by omega)
        subst e0
        exact ⟨U2 ++ [], by simpa [Srt] using hU'.2.1, .refl _, .inl ⟨rfl, by omega⟩⟩
    · have e0 : U2 = [] := List.eq_nil_of_length_eq_zero (by omega)
      subst e0
      exact ⟨[] ++ V2, by simpa [Srt] using hV'.2.1, .refl _, .inl ⟨rfl, by omega⟩⟩
  refine ⟨W1 ++ W2, ?_, ?_, ?_⟩
  · refine List.pairwise_append.mpr ⟨a1, b1, fun x h y h' => ?_⟩
    rcases List.mem_append.mp (a2.mem_iff.mp h) with h | h
    · rcases List.mem_append.mp (b2.mem_iff.mp h') with h' | h'
      · exact hU'.2.2 x h y h'
      · exact h12 x h y h'
    · rcases List.mem_append.mp (b2.mem_iff.mp h') with h' | h'
      · exact h21 x h y h'
      · exact hV'.2.2 x h y h'
  · refine (a2.append b2).trans ?_
    rw [show (U1 ++ V1) ++ (U2 ++ V2) = U1 ++ ((V1 ++ U2) ++ V2) from by simp, show (U1 ++ U2) ++ (V1 ++ V2) = U1 ++ ((U2 ++ V1) ++ V2) from by simp]
    exact (List.Perm.append_right _ List.perm_append_comm).append_left _
  · -- the walk behind the bisection
    have t8 : Ev (fun k => slices_symMergeCmpFunc_int.j8 k (P ++ (U1 ++ (V1 ++ (U2 ++ (V2 ++ S))))) a b l mid s e (decide (a < s ∧ s < mid))) (P ++ ((W1 ++ W2) ++ S)) := by
      have second : ∀ (f1 : Nat → Option (List Int)), (∀ k, f1 k = (if mid < e then (if e < b then ((slices_symMergeCmpFunc_int.f k (P ++ (W1 ++ (U2 ++ (V2 ++ S)))) mid e b l).bind fun t186 => (some t186)) else (some (P ++ (W1 ++ (U2 ++ (V2 ++ S)))))) else (some (P ++ (W1 ++ (U2 ++ (V2 ++ S))))))) → Ev f1 (P ++ ((W1 ++ W2) ++ S)) := by
        intro f1 hf
        obtain rfl : f1 = _ := funext hf
        rcases b3 with ⟨rfl, hn⟩ | ⟨hn, w⟩
        · by_cases h1 : mid < e
          · simp only [if_pos h1, if_neg (fun h => hn ⟨h1, h⟩)]
            simpa using Ev.now _
          · simp only [if_neg h1]
            simpa using Ev.now _
        · simp only [if_pos hn.1, if_pos hn.2]
          refine Ev.bind w ?_
          simpa using Ev.now _
      refine ev_unroll ?_
      simp only [slices_symMergeCmpFunc_int.j8, decide_eq_true_eq]
      rcases a3 with ⟨e0, hn⟩ | ⟨hn, w⟩
      · simp only [if_neg hn]
        exact second _ (fun k => by rw [e0]; simp)
      · simp only [if_pos hn]
        exact Ev.bind w (second _ (fun k => rfl))
    have t7 : Ev (fun k => slices_symMergeCmpFunc_int.j7 k (P ++ (U1 ++ (V1 ++ (U2 ++ (V2 ++ S))))) a b l mid s e) (P ++ ((W1 ++ W2) ++ S)) := by
      refine ev_unroll ?_
      simp only [slices_symMergeCmpFunc_int.j7]
      by_cases h1 : a < s
      · simp only [if_pos h1]
        simpa [h1] using t8
      · simp only [if_neg h1]
        simpa [h1] using t8
    by_cases h1 : s < m
    · simp only [if_pos h1]
      refine ev_unroll ?_
      simp only [slices_symMergeCmpFunc_int.j6, decide_eq_true_eq]
      by_cases h2 : m < e
      · simp only [if_pos h2]
        have h := rot_ev l (P ++ U1) U2 V1 (V2 ++ S) s m e (by intro e0; subst e0; simp at hm; omega) (by intro e0; subst e0; simp at he; omega) (by simp; omega) hm he (by omega)
        refine Ev.bind (by simpa using h) ?_
        simpa using t7
      · simp only [if_neg h2]
        have e0 : V1 = [] := List.eq_nil_of_length_eq_zero (by omega)
        subst e0
        simpa using t7
    · simp only [if_neg h1]
      refine ev_unroll ?_
      simp only [slices_symMergeCmpFunc_int.j6, Bool.false_eq_true, if_false]
      have e0 : U2 = [] := List.eq_nil_of_length_eq_zero (by omega)
      subst e0
      simpa using t7
theorem sym_ev (l : List S43) : ∀ (d : Nat) (P U V S : List Int) (a m b : Int), U.length + V.length ≤ d → U ≠ [] → V ≠ [] → a = (P.length : Int) → m = a + (U.length : Int) → b = m + (V.length : Int) → b ≤ 500000 → Srt l U → Srt l V → (∀ x ∈ U, ∀ y ∈ V, x < y) → Vd l (U ++ V) →
    ∃ W, Srt l W ∧ W.Perm (U ++ V) ∧ Ev (fun k => slices_symMergeCmpFunc_int.f k (P ++ (U ++ (V ++ S))) a m b l) (P ++ (W ++ S)) := by
  intro d
  induction d with
  | zero =>
    intro P U V S a m b h hU
    exact absurd (List.eq_nil_of_length_eq_zero (by omega)) hU
  | succ d ih =>
    intro P U V S a m b hd' hUn hVn ha hm hb hb1 hU hV hx hd
    have lu : 0 < U.length := List.length_pos_iff.mpr hUn
    have lv : 0 < V.length := List.length_pos_iff.mpr hVn
    have hd2 := Vd_app.mp hd
    have hlen : (((P ++ (U ++ (V ++ S)) : List Int).length : Nat) : Int) = (P.length : Int) + (U.length : Int) + (V.length : Int) + (S.length : Int) := by simp; omega
    have rU : ∀ q, 0 ≤ q → q < (U.length : Int) → rd (P ++ (U ++ (V ++ S))) (a + q) = rd U q := fun q h0 h1 => by
      rw [rd_off _ _ _ (by omega), rd_in _ _ _ (by omega) (by omega)]
      congr 1; omega
    have rV : ∀ q, 0 ≤ q → q < (V.length : Int) → rd (P ++ (U ++ (V ++ S))) (m + q) = rd V q := fun q h0 h1 => by
      rw [rd_off _ _ _ (by omega), rd_off _ _ _ (by omega), rd_in _ _ _ (by omega) (by omega)]
      congr 1; omega
    have wUm : wrap64 (m - a) = (U.length : Int) := by rw [w64 (by omega) (by omega)]; omega
    have wVm : wrap64 (b - m) = (V.length : Int) := by rw [w64 (by omega) (by omega)]; omega
    by_cases c1 : (U.length : Int) = 1
    · obtain ⟨u, rfl⟩ : ∃ u, U = [u] := List.length_eq_one_iff.mp (by omega)
      have ru : rd (P ++ ([u] ++ (V ++ S))) a = u := by have := rU 0 (by omega) (by omega); simpa [rd] using this
      have hvu := (Vd_cons.mp hd2.1).1
      obtain ⟨s, s1, s2, s3, s4, s5⟩ := bs0 l (P ++ ([u] ++ (V ++ S))) a m b (by omega) (by rw [ru]; exact hvu) (by omega) (by omega) (by omega)
        (fun q h0 h1 => by have := vd_rd hd2.2 (q - m) (by omega) (by omega); rw [← rV (q - m) (by omega) (by omega), show m + (q - m) = q from by omega] at this; simpa using this)
        (fun p q h0 h1 h2 => by have := srt_le hV (p - m) (q - m) (by omega) (by omega) (by omega); rw [← rV (q - m) (by omega) (by omega), ← rV (p - m) (by omega) (by omega), show m + (q - m) = q from by omega, show m + (p - m) = p from by omega] at this; simpa using this)
        (b - m).toNat m b (by omega) (by omega) (by omega) (by omega) (fun q h0 h1 => by omega) (fun q h0 h1 => by omega)
      obtain ⟨n, rfl⟩ : ∃ n : Nat, s = m + (n : Int) := ⟨(s - m).toNat, by omega⟩
      rw [ru] at s3 s4
      have hVs : Srt l (V.take n ++ V.drop n) := by rw [List.take_append_drop]; exact hV
      have hVp := List.pairwise_append.mp hVs
      refine ⟨V.take n ++ u :: V.drop n, ?_, ?_, ev_unroll ?_⟩
      · refine List.pairwise_append.mpr ⟨hVp.1, List.pairwise_cons.mpr ⟨fun y hy => ?_, hVp.2.1⟩, fun x hx' y hy => ?_⟩
        · obtain ⟨q, q1, q2, q3⟩ := mem_drop_rd hy
          have h4 := s4 (m + q) (by omega) (by omega)
          rw [rV q (by omega) q2, q3] at h4
          exact Lx_of (by omega) (hx u (by simp) y (List.mem_of_mem_drop hy))
        · rcases List.mem_cons.mp hy with rfl | hy
          · obtain ⟨q, q0, q1, q2, q3⟩ := mem_take_rd hx'
            have h4 := s3 (m + q) (by omega) (by omega)
            rw [rV q (by omega) q2, q3] at h4
            exact .inl h4
          · exact hVp.2.2 x hx' y hy
      · refine List.perm_middle.trans ?_
        rw [List.take_append_drop]
        exact .refl _
      · simp only [slices_symMergeCmpFunc_int.f, wUm, if_pos c1]
        refine s5 _ ?_
        have h := bub1 u (m + (n : Int)) (V.take n) P (V.drop n ++ S) a ha (by simp only [List.length_cons, List.length_nil] at hm; simp; omega) (by omega)
        rw [show P ++ (u :: (V.take n ++ (V.drop n ++ S))) = P ++ ([u] ++ (V ++ S)) from by rw [← List.append_assoc (V.take n), List.take_append_drop]; simp] at h
        simpa using h
    · by_cases c2 : (V.length : Int) = 1
      · obtain ⟨v, rfl⟩ : ∃ u, V = [u] := List.length_eq_one_iff.mp (by omega)
        have rv : rd (P ++ (U ++ ([v] ++ S))) m = v := by have := rV 0 (by omega) (by omega); simpa [rd] using this
        have hvv := (Vd_cons.mp hd2.2).1
        obtain ⟨s, s1, s2, s3, s4, s5⟩ := bs2 l (P ++ (U ++ ([v] ++ S))) m a m (by omega) (by rw [rv]; exact hvv) (by omega) (by omega) (by omega)
          (fun q h0 h1 => by have := vd_rd hd2.1 (q - a) (by omega) (by omega); rw [← rU (q - a) (by omega) (by omega), show a + (q - a) = q from by omega] at this; simpa using this)
          (fun p q h0 h1 h2 => by have := srt_le hU (p - a) (q - a) (by omega) (by omega) (by omega); rw [← rU (q - a) (by omega) (by omega), ← rU (p - a) (by omega) (by omega), show a + (q - a) = q from by omega, show a + (p - a) = p from by omega] at this; simpa using this)
          (m - a).toNat a m (by omega) (by omega) (by omega) (by omega) (fun q h0 h1 => by omega) (fun q h0 h1 => by omega)
        obtain ⟨n, rfl⟩ : ∃ n : Nat, s = a + (n : Int) := ⟨(s - a).toNat, by omega⟩
        rw [rv] at s3 s4
        have hUs : Srt l (U.take n ++ U.drop n) := by rw [List.take_append_drop]; exact hU
        have hUp := List.pairwise_append.mp hUs
        refine ⟨U.take n ++ v :: U.drop n, ?_, ?_, ev_unroll ?_⟩
        · refine List.pairwise_append.mpr ⟨hUp.1, List.pairwise_cons.mpr ⟨fun y hy => ?_, hUp.2.1⟩, fun x hx' y hy => ?_⟩
          · obtain ⟨q, q1, q2, q3⟩ := mem_drop_rd hy
            have h4 := s4 (a + q) (by omega) (by omega)
            rw [rU q (by omega) q2, q3] at h4
            exact .inl h4
          · rcases List.mem_cons.mp hy with rfl | hy
            · obtain ⟨q, q0, q1, q2, q3⟩ := mem_take_rd hx'
              have h4 := s3 (a + q) (by omega) (by omega)
              rw [rU q (by omega) q2, q3] at h4
              exact Lx_of (by omega) (hx x (List.mem_of_mem_take hx') _ (by simp))
            · exact hUp.2.2 x hx' y hy
        · refine List.perm_middle.trans ?_
          rw [List.take_append_drop]
          exact List.perm_append_comm (l₁ := [v])
        · simp only [slices_symMergeCmpFunc_int.f, wUm, if_neg c1, wVm, if_pos c2]
          refine s5 _ ?_
          have h := bub3 v (U.drop n).length (U.drop n) (P ++ U.take n) S (a + (n : Int)) m rfl (by simp; omega) (by simp; omega) (by omega)
          rw [show (P ++ U.take n) ++ (U.drop n ++ (v :: S)) = P ++ (U ++ ([v] ++ S)) from by rw [List.append_assoc, ← List.append_assoc (U.take n), List.take_append_drop]; simp] at h
          simpa using h
      · -- the bisection of both
        have hmidw := half_w (i := a) (j := b) (by omega) (by omega) (by omega)
        obtain ⟨mid, hmid⟩ : ∃ mid, (a + b) / 2 = mid := ⟨_, rfl⟩
        rw [hmid] at hmidw
        have hmid1 : 2 * mid ≤ a + b := by omega
        have hmid2 : a + b ≤ 2 * mid + 1 := by omega
        obtain ⟨lo, hi, hlo, hhi, hlh⟩ : ∃ lo hi : Int, lo = (if m > mid then mid + m - b else a) ∧ hi = (if m > mid then mid else m) ∧ (m > mid ∧ lo = mid + m - b ∧ hi = mid ∨ ¬ m > mid ∧ lo = a ∧ hi = m) := by
          by_cases h : m > mid
          · exact ⟨mid + m - b, mid, by rw [if_pos h], by rw [if_pos h], .inl ⟨h, rfl, rfl⟩⟩
          · exact ⟨a, m, by rw [if_neg h], by rw [if_neg h], .inr ⟨h, rfl, rfl⟩⟩
        have g1 : a ≤ lo := by omega
        have g2 : hi ≤ m := by omega
        have g3 : lo ≤ hi := by omega
        have g4 : ∀ q, lo ≤ q → q < hi → m ≤ mid + m - 1 - q ∧ mid + m - 1 - q < b := by omega
        obtain ⟨s, s1, s2, s3, s4, s5⟩ := bs4 l (P ++ (U ++ (V ++ S))) a m b mid (mid + m) (mid + m - 1) lo hi (by omega) (by omega) (by omega) (by omega) (by omega) (by omega)
          (fun q h0 h1 => by
            have h2 := g4 q h0 h1
            have e1 := vd_rd hd2.1 (q - a) (by omega) (by omega)
            have e2 := vd_rd hd2.2 (mid + m - 1 - q - m) (by omega) (by omega)
            rw [← rU (q - a) (by omega) (by omega), show a + (q - a) = q from by omega] at e1
            rw [← rV (mid + m - 1 - q - m) (by omega) (by omega), show m + (mid + m - 1 - q - m) = mid + m - 1 - q from by omega] at e2
            exact ⟨e1, e2⟩)
          (fun q q' h0 h1 h2 => by
            have h3 := g4 q h0 (by omega)
            have h4 := g4 q' (by omega) h2
            have e1 := srt_le hU (q - a) (q' - a) (by omega) (by omega) (by omega)
            have e2 := srt_le hV (mid + m - 1 - q' - m) (mid + m - 1 - q - m) (by omega) (by omega) (by omega)
            rw [← rU (q - a) (by omega) (by omega), ← rU (q' - a) (by omega) (by omega), show a + (q - a) = q from by omega, show a + (q' - a) = q' from by omega] at e1
            rw [← rV (mid + m - 1 - q - m) (by omega) (by omega), ← rV (mid + m - 1 - q' - m) (by omega) (by omega), show m + (mid + m - 1 - q - m) = mid + m - 1 - q from by omega, show m + (mid + m - 1 - q' - m) = mid + m - 1 - q' from by omega] at e2
            exact ⟨e1, e2⟩)
          (hi - lo).toNat lo hi (by omega) (by omega) (by omega) (by omega) (fun q h0 h1 => by omega) (fun q h0 h1 => by omega)
        obtain ⟨n, rfl⟩ : ∃ n : Nat, s = a + (n : Int) := ⟨(s - a).toNat, by omega⟩
        obtain ⟨z, hz⟩ : ∃ z : Nat, mid + m - (a + (n : Int)) = m + (z : Int) := ⟨(mid - (a + (n : Int))).toNat, by omega⟩
        have lz : (z : Int) ≤ (V.length : Int) := by omega
        have ln : (n : Int) ≤ (U.length : Int) := by omega
        have tU := List.take_append_drop n U
        have tV := List.take_append_drop z V
        have ltU : (U.take n).length = n := by simp; omega
        have ltV : (V.take z).length = z := by simp; omega
        have ldU : (U.drop n).length = U.length - n := by simp
        have ldV : (V.drop z).length = V.length - z := by simp
        obtain ⟨W, w1, w2, w3⟩ := tail_ev l P (U.take n) (U.drop n) (V.take z) (V.drop z) S a m b mid (a + (n : Int)) (m + (z : Int)) ha (by omega) (by omega) (by omega) (by omega) (by omega) (by omega)
          (fun P' A B S' a' m' b' h1 h2 h3 h4 h5 h6 h7 h8 h9 h10 h11 => ih P' A B S' a' m' b' (by omega) h2 h3 h4 h5 h6 h7 h8 h9 h10 h11)
          (by rw [tU]; exact hU) (by rw [tV]; exact hV) (by rw [tU, tV]; exact hx) (by rw [tU, tV]; exact hd) (by omega) (by omega)
          (fun x hx' y hy => by
            obtain ⟨i, i0, i1, i2, i3⟩ := mem_take_rd hx'
            obtain ⟨j, j1, j2, j3⟩ := mem_drop_rd hy
            have h := s3 (a + (n : Int) - 1) (by omega) (by omega)
            rw [show a + (n : Int) - 1 = a + ((n : Int) - 1) from by omega, rU _ (by omega) (by omega), show mid + m - 1 - (a + ((n : Int) - 1)) = m + (z : Int) from by omega, rV _ (by omega) (by omega)] at h
            have k1 := srt_le hU i ((n : Int) - 1) (by omega) (by omega) (by omega)
            have k2 := srt_le hV (z : Int) j (by omega) (by omega) (by omega)
            rw [i3] at k1
            rw [j3] at k2
            exact Lx_of (by omega) (hx x (List.mem_of_mem_take hx') y (List.mem_of_mem_drop hy)))
          (fun x hx' y hy => by
            obtain ⟨i, i0, i1, i2, i3⟩ := mem_take_rd hx'
            obtain ⟨j, j1, j2, j3⟩ := mem_drop_rd hy
            have h := s4 (a + (n : Int)) (by omega) (by omega)
            rw [rU _ (by omega) (by omega), show mid + m - 1 - (a + (n : Int)) = m + ((z : Int) - 1) from by omega, rV _ (by omega) (by omega)] at h
            have k1 := srt_le hV i ((z : Int) - 1) (by omega) (by omega) (by omega)
            have k2 := srt_le hU (n : Int) j (by omega) (by omega) (by omega)
            rw [i3] at k1
            rw [j3] at k2
            exact .inl (by omega))
        rw [tU, tV] at w2 w3
        refine ⟨W, w1, w2, ev_unroll ?_⟩
        have j4e : Ev (fun k => slices_symMergeCmpFunc_int.j4 k (P ++ (U ++ (V ++ S))) a m b l mid (mid + m) lo hi) (P ++ (W ++ S)) := by
          refine ev_unroll ?_
          simp only [slices_symMergeCmpFunc_int.j4, w64 (x := mid + m - 1) (by omega) (by omega)]
          refine s5 _ ?_ hi rfl
          rw [w64 (x := mid + m - (a + (n : Int))) (by omega) (by omega), hz]
          exact w3
        simp only [slices_symMergeCmpFunc_int.f, wUm, if_neg c1, wVm, if_neg c2, hmidw, w64 (x := mid + m) (by omega) (by omega), w64 (x := mid + m - b) (by omega) (by omega)]
        rcases hlh with ⟨h, rfl, rfl⟩ | ⟨h, rfl, rfl⟩
        · simp only [if_pos h]; exact j4e
        · simp only [if_neg h]; exact j4e
/-! the order of the indices -/
theorem uniq {R : Int → Int → Prop} (hr : ∀ a, ¬ R a a) (ha : ∀ a b, R a b → ¬ R b a) : ∀ (W V : List Int), W.Pairwise R → V.Pairwise R → (∀ x, x ∈ W ↔ x ∈ V) → W = V := by
  intro W
  induction W with
  | nil =>
    intro V _ _ h
    cases V with
    | nil => rfl
    | cons b V => exact absurd ((h b).mpr (by simp)) (by simp)
  | cons a W ih =>
    intro V hW hV h
    cases V with
    | nil => exact absurd ((h a).mp (by simp)) (by simp)
    | cons b V =>
      have h1 := List.pairwise_cons.mp hW
      have h2 := List.pairwise_cons.mp hV
      have e : a = b := by
        rcases List.mem_cons.mp ((h a).mp (by simp)) with e | h3
        · exact e
        · rcases List.mem_cons.mp ((h b).mpr (by simp)) with e | h4
          · exact e.symm
          · exact absurd (h1.1 b h4) (ha _ _ (h2.1 a h3))
      subst e
      congr 1
      refine ih V h1.2 h2.2 (fun x => ⟨fun hx => ?_, fun hx => ?_⟩)
      · rcases List.mem_cons.mp ((h x).mp (List.mem_cons_of_mem _ hx)) with rfl | h3
        · exact absurd (h1.1 _ hx) (hr _)
        · exact h3
      · rcases List.mem_cons.mp ((h x).mpr (List.mem_cons_of_mem _ hx)) with rfl | h3
        · exact absurd (h2.1 _ hx) (hr _)
        · exact h3
theorem Lx_irr (l : List S43) (a : Int) : ¬ Lx l a a := by unfold Lx; omega
theorem Lx_asy (l : List S43) (a b : Int) (h : Lx l a b) : ¬ Lx l b a := by unfold Lx at *; omega
def ofC (l : List S43) (c : Int) (xs : List Int) : List Int := xs.filter (fun i => decide (cl l i = c))
def ord (l : List S43) (xs : List Int) : List Int := ofC l 0 xs ++ (ofC l 1 xs ++ (ofC l 2 xs ++ ofC l 3 xs))
def Cls (l : List S43) (xs : List Int) : Prop := ∀ x ∈ xs, 0 ≤ cl l x ∧ cl l x ≤ 3
theorem mem_ofC {l : List S43} {c x : Int} {xs : List Int} : x ∈ ofC l c xs ↔ x ∈ xs ∧ cl l x = c := by simp [ofC]
theorem ofC_cons (l : List S43) (c x : Int) (xs : List Int) : ofC l c (x :: xs) = if cl l x = c then x :: ofC l c xs else ofC l c xs := by
  unfold ofC
  by_cases h : cl l x = c
  · rw [if_pos h, List.filter_cons_of_pos (by simpa using h)]
  · rw [if_neg h, List.filter_cons_of_neg (by simpa using h)]
theorem ord_perm (l : List S43) : ∀ xs : List Int, Cls l xs → (ord l xs).Perm xs := by
  intro xs
  induction xs with
  | nil => intro _; exact .refl _
  | cons x xs ih =>
    intro h
    have h1 := ih (fun y hy => h y (List.mem_cons_of_mem _ hy))
    have h2 := h x (by simp)
    refine List.Perm.trans ?_ (h1.cons x)
    unfold ord
    simp only [ofC_cons]
    by_cases c0 : cl l x = 0
    · simp only [if_pos c0, if_neg (show ¬ cl l x = 1 by omega), if_neg (show ¬ cl l x = 2 by omega), if_neg (show ¬ cl l x = 3 by omega)]
      simp
    by_cases c1 : cl l x = 1
    · simp only [if_pos c1, if_neg c0, if_neg (show ¬ cl l x = 2 by omega), if_neg (show ¬ cl l x = 3 by omega), List.cons_append]
      exact List.perm_middle
    by_cases c2 : cl l x = 2
    · simp only [if_pos c2, if_neg c0, if_neg c1, if_neg (show ¬ cl l x = 3 by omega)]
      rw [show ofC l 0 xs ++ (ofC l 1 xs ++ (x :: ofC l 2 xs ++ ofC l 3 xs)) = (ofC l 0 xs ++ ofC l 1 xs) ++ x :: (ofC l 2 xs ++ ofC l 3 xs) from by simp, show ofC l 0 xs ++ (ofC l 1 xs ++ (ofC l 2 xs ++ ofC l 3 xs)) = (ofC l 0 xs ++ ofC l 1 xs) ++ (ofC l 2 xs ++ ofC l 3 xs) from by simp]
      exact List.perm_middle
    · have c3 : cl l x = 3 := by omega
      simp only [if_pos c3, if_neg c0, if_neg c1, if_neg c2]
      rw [show ofC l 0 xs ++ (ofC l 1 xs ++ (ofC l 2 xs ++ x :: ofC l 3 xs)) = (ofC l 0 xs ++ (ofC l 1 xs ++ ofC l 2 xs)) ++ x :: ofC l 3 xs from by simp, show ofC l 0 xs ++ (ofC l 1 xs ++ (ofC l 2 xs ++ ofC l 3 xs)) = (ofC l 0 xs ++ (ofC l 1 xs ++ ofC l 2 xs)) ++ ofC l 3 xs from by simp]
      exact List.perm_middle
theorem ofC_srt (l : List S43) (c : Int) (xs : List Int) (h : xs.Pairwise (· < ·)) : Srt l (ofC l c xs) := by
  unfold Srt ofC
  refine List.Pairwise.imp_of_mem ?_ (h.filter _)
  intro a b ha hb hab
  have h1 := (List.mem_filter.mp ha).2
  have h2 := (List.mem_filter.mp hb).2
  simp only [decide_eq_true_eq] at h1 h2
  exact .inr ⟨by omega, hab⟩
theorem ord_srt (l : List S43) (xs : List Int) (h : xs.Pairwise (· < ·)) : Srt l (ord l xs) := by
  unfold ord
  refine List.pairwise_append.mpr ⟨ofC_srt l 0 xs h, List.pairwise_append.mpr ⟨ofC_srt l 1 xs h, List.pairwise_append.mpr ⟨ofC_srt l 2 xs h, ofC_srt l 3 xs h, fun a ha b hb => ?_⟩, fun a ha b hb => ?_⟩, fun a ha b hb => ?_⟩
  · have := (mem_ofC.mp ha).2; have := (mem_ofC.mp hb).2; exact .inl (by omega)
  · have := (mem_ofC.mp ha).2
    rcases List.mem_append.mp hb with hb | hb <;> (have := (mem_ofC.mp hb).2; exact .inl (by omega))
  · have := (mem_ofC.mp ha).2
    rcases List.mem_append.mp hb with hb | hb
    · have := (mem_ofC.mp hb).2; exact .inl (by omega)
    · rcases List.mem_append.mp hb with hb | hb <;> (have := (mem_ofC.mp hb).2; exact .inl (by omega))
/-- What is sorted and has the same indices is the order. -/
theorem ord_uniq (l : List S43) (W xs : List Int) (hW : Srt l W) (hp : W.Perm xs) (hx : xs.Pairwise (· < ·)) (hc : Cls l xs) : W = ord l xs :=
  uniq (Lx_irr l) (Lx_asy l) W (ord l xs) hW (ord_srt l xs hx) (fun x => by rw [hp.mem_iff, (ord_perm l xs hc).mem_iff])
/-- The indices from a below b. -/
def rng (a b : Nat) : List Int := (List.range' a (b - a)).map fun (i : Nat) => (i : Int)
theorem rng_length (a b : Nat) : (rng a b).length = b - a := by simp [rng]
theorem mem_rng {a b : Nat} {x : Int} : x ∈ rng a b ↔ (a : Int) ≤ x ∧ x < (b : Int) := by
  simp only [rng, List.mem_map, List.mem_range'_1]
  constructor
  · rintro ⟨i, h, rfl⟩; omega
  · rintro ⟨h1, h2⟩; exact ⟨x.toNat, by omega, by omega⟩
theorem rng_lt (a b : Nat) : (rng a b).Pairwise (· < ·) := by
  unfold rng
  rw [List.pairwise_map]
  exact (List.pairwise_lt_range' 1).imp (fun h => by omega)
theorem rng_cut (a m b : Nat) (h1 : a ≤ m) (h2 : m ≤ b) : rng a b = rng a m ++ rng m b := by
  unfold rng
  rw [← List.map_append]
  congr 1
  have h := List.range'_append (s := a) (m := m - a) (n := b - m) (step := 1)
  rw [show a + 1 * (m - a) = m from by omega, show m - a + (b - m) = b - a from by omega] at h
  exact h.symm
theorem rng_nil (a b : Nat) (h : b ≤ a) : rng a b = [] := by unfold rng; rw [show b - a = 0 from by omega]; rfl
theorem rng_cons (a b : Nat) (h : a < b) : rng a b = (a : Int) :: rng (a + 1) b := by
  rw [rng_cut a (a + 1) b (by omega) (by omega)]
  unfold rng
  rw [show a + 1 - a = 1 from by omega]
  rfl
section
variable (l : List S43) (hcl : ∀ x ∈ l, 0 ≤ x.f2 ∧ x.f2 ≤ 3)
include hcl
theorem cls_rng (a b : Nat) (hb : b ≤ l.length) : Cls l (rng a b) := by
  intro x hx
  have h := mem_rng.mp hx
  exact hcl _ (rd43_mem (by omega) (by omega))
theorem vd_seg (a b : Nat) (hb : b ≤ l.length) : Vd l (ord l (rng a b)) := by
  intro x hx
  have h := mem_rng.mp ((ord_perm l _ (cls_rng l hcl a b hb)).mem_iff.mp hx)
  omega
theorem seg_length (a b : Nat) (hb : b ≤ l.length) : (ord l (rng a b)).length = b - a := by
  rw [(ord_perm l _ (cls_rng l hcl a b hb)).length_eq, rng_length]
theorem seg_mem (a b : Nat) (hb : b ≤ l.length) (x : Int) : x ∈ ord l (rng a b) ↔ (a : Int) ≤ x ∧ x < (b : Int) := by
  rw [(ord_perm l _ (cls_rng l hcl a b hb)).mem_iff, mem_rng]
theorem seg_ins (P S : List Int) (a b : Nat) (hP : P.length = a) (hab : a ≤ b) (hb : b ≤ l.length) (hn : l.length ≤ 1000) :
    Ev (fun k => slices_insertionSortCmpFunc_int.f k (P ++ (rng a b ++ S)) (a : Int) (b : Int) l) (P ++ (ord l (rng a b) ++ S)) := by
  obtain ⟨W, w1, w2, w3⟩ := ins_ev l P (rng a b) S (a : Int) (b : Int) (by omega) (by rw [rng_length]; omega) (by omega) (rng_lt a b) (fun x hx => by have := mem_rng.mp hx; omega)
  have e := ord_uniq l W _ w1 w2 (rng_lt a b) (cls_rng l hcl a b hb)
  subst e
  simpa using w3
theorem seg_merge (P S : List Int) (a m b : Nat) (hP : P.length = a) (ham : a < m) (hmb : m < b) (hb : b ≤ l.length) (hn : l.length ≤ 1000) :
    Ev (fun k => slices_symMergeCmpFunc_int.f k (P ++ (ord l (rng a m) ++ (ord l (rng m b) ++ S))) (a : Int) (m : Int) (b : Int) l) (P ++ (ord l (rng a b) ++ S)) := by
  have l1 := seg_length l hcl a m (by omega)
  have l2 := seg_length l hcl m b (by omega)
  obtain ⟨W, w1, w2, w3⟩ := sym_ev l _ P (ord l (rng a m)) (ord l (rng m b)) S (a : Int) (m : Int) (b : Int) (Nat.le_refl _) (by intro e; rw [e] at l1; simp at l1; omega) (by intro e; rw [e] at l2; simp at l2; omega) (by omega) (by omega) (by omega) (by omega) (ord_srt l _ (rng_lt a m)) (ord_srt l _ (rng_lt m b))
    (fun x hx y hy => by have := (seg_mem l hcl a m (by omega) x).mp hx; have := (seg_mem l hcl m b (by omega) y).mp hy; omega) (Vd_app.mpr ⟨vd_seg l hcl a m (by omega), vd_seg l hcl m b hb⟩)
  have e := ord_uniq l W (rng a b) w1 (w2.trans (by
    rw [rng_cut a m b (by omega) (by omega)]
    exact (ord_perm l _ (cls_rng l hcl a m (by omega))).append (ord_perm l _ (cls_rng l hcl m b hb)))) (rng_lt a b) (cls_rng l hcl a b hb)
  subst e
  exact w3
omit hcl in
inductive Bl (l : List S43) (s n : Nat) : Nat → List Int → Prop
  | last (a : Nat) (h : n < a + s) (h2 : a ≤ n) : Bl l s n a (ord l (rng a n))
  | more (a : Nat) (X : List Int) (h : a + s ≤ n) (hx : Bl l s n (a + s) X) : Bl l s n a (ord l (rng a (a + s)) ++ X)
omit hcl in
theorem Bl_near {s n a : Nat} {X : List Int} (h : Bl l s n a X) (hs : 0 < s) (ha : n ≤ a + s) (ha2 : a ≤ n) : X = ord l (rng a n) := by
  cases h with
  | last _ h h2 => rfl
  | more _ X h hx =>
    obtain rfl : n = a + s := by omega
    cases hx with
    | last _ h3 h4 => rw [rng_nil (a + s) (a + s) (by omega)]; simp [ord, ofC]
    | more _ X h3 h4 => omega
theorem blocks0 (n s : Nat) (hnl : n = l.length) (hn : n ≤ 1000) (hs : 0 < s) (hs2 : s ≤ 1000) : ∀ (d a : Nat) (P : List Int), n - a ≤ d → a ≤ n → P.length = a →
    ∃ X, Bl l s n a X ∧ ∀ r, Ev (fun k => slices_stableCmpFunc_int.l1 k (P ++ X) (n : Int) l (s : Int)) r → ∀ b : Int, b = ((a + s : Nat) : Int) → Ev (fun k => slices_stableCmpFunc_int.l0 k (P ++ rng a n) (n : Int) l (s : Int) (a : Int) b) r := by
  intro d
  have fin : ∀ (a : Nat) (P : List Int), n < a + s → a ≤ n → P.length = a → ∃ X, Bl l s n a X ∧ ∀ r, Ev (fun k => slices_stableCmpFunc_int.l1 k (P ++ X) (n : Int) l (s : Int)) r → ∀ b : Int, b = ((a + s : Nat) : Int) → Ev (fun k => slices_stableCmpFunc_int.l0 k (P ++ rng a n) (n : Int) l (s : Int) (a : Int) b) r := by
    intro a P h1 h2 hP
    refine ⟨_, .last a h1 h2, fun r h b hb => ev_unroll ?_⟩
    simp only [slices_stableCmpFunc_int.l0, if_neg (show ¬ b ≤ (n : Int) by omega)]
    refine Ev.bind (a := P ++ ord l (rng a n)) ?_ h
    simpa using seg_ins l hcl P [] a n hP h2 (by omega) (by omega)
  induction d with
  | zero => exact fun a P hd ha hP => fin a P (by omega) ha hP
  | succ d ih =>
    intro a P hd ha hP
    by_cases h1 : n < a + s
    · exact fin a P h1 ha hP
    · obtain ⟨X, x1, x2⟩ := ih (a + s) (P ++ ord l (rng a (a + s))) (by omega) (by omega) (by rw [List.length_append, seg_length l hcl a (a + s) (by omega)]; omega)
      refine ⟨_, .more a X (by omega) x1, fun r h b hb => ev_unroll ?_⟩
      simp only [slices_stableCmpFunc_int.l0, if_pos (show b ≤ (n : Int) by omega), w64 (x := b + (s : Int)) (by omega) (by omega)]
      refine Ev.bind (a := P ++ (ord l (rng a (a + s)) ++ rng (a + s) n)) ?_ ?_
      · rw [rng_cut a (a + s) n (by omega) (by omega), hb]
        exact seg_ins l hcl P (rng (a + s) n) a (a + s) hP (by omega) (by omega) (by omega)
      · rw [hb]
        have h3 := x2 r (by simpa using h) (((a + s : Nat) : Int) + (s : Int)) (by omega)
        simpa using h3
theorem blocks2 (n s : Nat) (hnl : n = l.length) (hn : n ≤ 1000) (hs : 0 < s) (hs2 : s ≤ 2000) : ∀ (d a : Nat) (P X : List Int), n - a ≤ d → a ≤ n → P.length = a → Bl l s n a X →
    ∃ Y, Bl l (2 * s) n a Y ∧ ∀ r, Ev (fun k => slices_stableCmpFunc_int.l1 k (P ++ Y) (n : Int) l ((2 * s : Nat) : Int)) r → ∀ b : Int, b = ((a + 2 * s : Nat) : Int) → Ev (fun k => slices_stableCmpFunc_int.l2 k (P ++ X) (n : Int) l (s : Int) (a : Int) b) r := by
  intro d
  have fin : ∀ (a : Nat) (P X : List Int), n < a + 2 * s → a ≤ n → P.length = a → Bl l s n a X → ∃ Y, Bl l (2 * s) n a Y ∧ ∀ r, Ev (fun k => slices_stableCmpFunc_int.l1 k (P ++ Y) (n : Int) l ((2 * s : Nat) : Int)) r → ∀ b : Int, b = ((a + 2 * s : Nat) : Int) → Ev (fun k => slices_stableCmpFunc_int.l2 k (P ++ X) (n : Int) l (s : Int) (a : Int) b) r := by
    intro a P X h1 h2 hP hX
    refine ⟨_, .last a h1 h2, fun r h b hb => ev_unroll ?_⟩
    have e2 : wrap64 ((s : Int) * 2) = ((2 * s : Nat) : Int) := by rw [w64 (by omega) (by omega)]; omega
    have e1 : wrap64 ((a : Int) + (s : Int)) = ((a + s : Nat) : Int) := by rw [w64 (by omega) (by omega)]; omega
    simp only [slices_stableCmpFunc_int.l2, if_neg (show ¬ b ≤ (n : Int) by omega), e1, e2]
    by_cases h3 : a + s < n
    · simp only [if_pos (show ((a + s : Nat) : Int) < (n : Int) by omega)]
      cases hX with
      | last _ h4 h5 => omega
      | more _ X h4 hx =>
        rw [Bl_near l hx hs (by omega) (by omega)]
        have h5 := seg_merge l hcl P [] a (a + s) n hP (by omega) (by omega) (by omega) (by omega)
        simp only [List.append_nil] at h5
        exact Ev.bind h5 h
    · simp only [if_neg (show ¬ ((a + s : Nat) : Int) < (n : Int) by omega)]
      rw [Bl_near l hX hs (by omega) h2]
      exact h
  induction d with
  | zero => exact fun a P X hd ha hP hX => fin a P X (by omega) ha hP hX
  | succ d ih =>
    intro a P X hd ha hP hX
    by_cases h1 : n < a + 2 * s
    · exact fin a P X h1 ha hP hX
    · cases hX with
      | last _ h4 h5 => omega
      | more _ X h4 hx =>
      cases hx with
      | last _ h4 h5 => omega
      | more _ X h4 hx =>
        rw [show a + s + s = a + 2 * s from by omega] at hx
        obtain ⟨Y, y1, y2⟩ := ih (a + 2 * s) (P ++ ord l (rng a (a + 2 * s))) X (by omega) (by omega) (by rw [List.length_append, seg_length l hcl a (a + 2 * s) (by omega)]; omega) hx
        refine ⟨_, .more a Y (by omega) y1, fun r h b hb => ev_unroll ?_⟩
        have e1 : wrap64 ((a : Int) + (s : Int)) = ((a + s : Nat) : Int) := by rw [w64 (by omega) (by omega)]; omega
        have e2 : wrap64 (2 * (s : Int)) = ((2 * s : Nat) : Int) := by rw [w64 (by omega) (by omega)]; omega
        simp only [slices_stableCmpFunc_int.l2, if_pos (show b ≤ (n : Int) by omega), e1, e2, w64 (x := b + ((2 * s : Nat) : Int)) (by omega) (by omega)]
        refine Ev.bind (a := P ++ (ord l (rng a (a + 2 * s)) ++ X)) ?_ ?_
        · rw [hb]
          have h5 := seg_merge l hcl P X a (a + s) (a + s + s) hP (by omega) (by omega) (by omega) (by omega)
          rw [show a + s + s = a + 2 * s from by omega] at h5
          rw [show a + s + s = a + 2 * s from by omega]
          exact h5
        · rw [hb]
          have h3 := y2 r (by simpa using h) (((a + 2 * s : Nat) : Int) + ((2 * s : Nat) : Int)) (by omega)
          simpa using h3
theorem blocks1 (n : Nat) (hnl : n = l.length) (hn : n ≤ 1000) : ∀ (d s : Nat) (X : List Int), n - s ≤ d → 0 < s → s ≤ 2000 → Bl l s n 0 X → Ev (fun k => slices_stableCmpFunc_int.l1 k X (n : Int) l (s : Int)) (ord l (rng 0 n)) := by
  intro d
  have fin : ∀ (s : Nat) (X : List Int), n ≤ s → 0 < s → Bl l s n 0 X → Ev (fun k => slices_stableCmpFunc_int.l1 k X (n : Int) l (s : Int)) (ord l (rng 0 n)) := by
    intro s X h1 h2 hX
    refine ev_unroll ?_
    simp only [slices_stableCmpFunc_int.l1, if_neg (show ¬ (s : Int) < (n : Int) by omega), Bl_near l hX h2 (by omega) (by omega)]
    exact Ev.now _
  induction d with
  | zero => exact fun s X hd h2 _ hX => fin s X (by omega) h2 hX
  | succ d ih =>
    intro s X hd h2 h3 hX
    by_cases h1 : n ≤ s
    · exact fin s X h1 h2 hX
    · obtain ⟨Y, y1, y2⟩ := blocks2 l hcl n s hnl hn h2 (by omega) n 0 [] X (by omega) (by omega) rfl hX
      refine ev_unroll ?_
      have e2 : wrap64 (2 * (s : Int)) = ((2 * s : Nat) : Int) := by rw [w64 (by omega) (by omega)]; omega
      simp only [slices_stableCmpFunc_int.l1, if_pos (show (s : Int) < (n : Int) by omega), e2]
      have h5 := y2 _ (by simpa using ih (2 * s) Y (by omega) (by omega) (by omega) y1) ((2 * s : Nat) : Int) (by omega)
      simpa using h5
/-- The library's stable sort of all indices by class. -/
theorem stable_ev (hn : l.length ≤ 1000) : Ev (fun k => slices_SortStableFunc_int_int.f k (rng 0 l.length) l) (ord l (rng 0 l.length)) := by
  simp only [slices_SortStableFunc_int_int.f, slices_stableCmpFunc_int.f, rng_length, Nat.sub_zero]
  obtain ⟨X, x1, x2⟩ := blocks0 l hcl l.length 20 rfl hn (by omega) (by omega) l.length 0 [] (by omega) (by omega) rfl
  have h := x2 _ (by simpa using blocks1 l hcl l.length rfl hn l.length 20 X (by omega) (by omega) (by omega) x1) 20 (by omega)
  refine Ev.bind (by simpa using h) ?_
  exact Ev.now _
end
/-- Whom the program lets in, by their places. -/
def inS (l : List S43) (room : Int) : List Int := (ord l (rng 0 l.length)).take (mn (l.length : Int) (mx 0 room)).toNat
open Classical in
noncomputable def shedR (l : List S43) (busy most : Int) : List S43 × Bool :=
  if ((∀ x ∈ l, ArOk x) ∧ l.length ≤ 200) ∧ (0 ≤ busy ∧ busy ≤ 10000) ∧ (0 ≤ most ∧ most ≤ 10000) then (((HandSort.sorted (inS l (most - busy))).map fun i => rd_T43 l i), true) else ([], false)
theorem inS_sub (l : List S43) (room : Int) : (inS l room).Sublist (ord l (rng 0 l.length)) := List.take_sublist _ _
section
variable (l : List S43) (hcl : ∀ x ∈ l, 0 ≤ x.f2 ∧ x.f2 ≤ 3) (hn : l.length ≤ 200)
include hcl hn
theorem inS_mem {room x : Int} (h : x ∈ inS l room) : 0 ≤ x ∧ x < (l.length : Int) := by
  have := (seg_mem l hcl 0 l.length (by omega) x).mp ((inS_sub l room).subset h)
  omega
omit hn in
theorem ord_nodup : (ord l (rng 0 l.length)).Nodup := List.nodup_iff_pairwise_ne.mpr ((ord_srt l _ (rng_lt 0 l.length)).imp (fun h e => by subst e; exact Lx_irr l _ h))
omit hn in
theorem sorted_lt (room : Int) : (HandSort.sorted (inS l room)).Pairwise (· < ·) := by
  have h1 : (HandSort.sorted (inS l room)).Pairwise (fun x y => decide (x ≤ y) = true) := List.pairwise_mergeSort (by simp; omega) (by simp; omega) _
  have h2 : (HandSort.sorted (inS l room)).Nodup := ((List.mergeSort_perm _ _).nodup_iff).mpr ((inS_sub l room).nodup (ord_nodup l hcl))
  exact (h1.and (List.nodup_iff_pairwise_ne.mp h2)).imp (fun h => by have := h.1; simp at this; have := h.2; omega)
theorem impl_out (r : List Int) (hr : ∀ x ∈ r, 0 ≤ x ∧ x < (l.length : Int)) (hrl : r.length ≤ 1000) : ∀ (d i : Nat) (o : List S43), r.length - i = d → i ≤ r.length → o.length = i →
    Ev (fun k => impl_Shed.l1 k l o r (r.length : Int) (i : Int)) (o ++ (r.drop i).map (fun i => rd_T43 l i), true) := by
  intro d
  induction d with
  | zero =>
    intro i o hd hi ho
    refine ev_unroll ?_
    simp only [impl_Shed.l1, if_neg (show ¬ (i : Int) < (r.length : Int) by omega)]
    rw [List.drop_eq_nil_of_le (by omega)]
    simpa using Ev.now _
  | succ d ih =>
    intro i o hd hi ho
    have hx := hr (rd r (i : Int)) (rd_mem (by omega) (by omega))
    have h := ih (i + 1) (o ++ [rd_T43 l (rd r (i : Int))]) (by omega) (by omega) (by simp; omega)
    refine ev_unroll ?_
    simp only [impl_Shed.l1, if_pos (show (i : Int) < (r.length : Int) by omega), if_pos (show 0 ≤ (i : Int) by omega), if_pos hx.1, if_pos hx.2, if_pos (show o.length < 5864062014805 by omega), w64 (x := (i : Int) + 1) (by omega) (by omega)]
    rw [drop_rd (show i < r.length by omega)]
    simpa using h
theorem impl_go (busy most : Int) (hb : 0 ≤ busy ∧ busy ≤ 10000) (hm : 0 ≤ most ∧ most ≤ 10000) : Ev (fun k => impl_Shed.l0 k busy most l (rng 0 l.length) (l.length : Int) (l.length : Int)) ((HandSort.sorted (inS l (most - busy))).map (fun i => rd_T43 l i), true) := by
  have hlen : (inS l (most - busy)).length = (mn (l.length : Int) (mx 0 (most - busy))).toNat := by
    unfold inS
    rw [List.length_take, seg_length l hcl 0 l.length (by omega)]
    have : (mn (l.length : Int) (mx 0 (most - busy))) ≤ (l.length : Int) := by unfold mn mx; split <;> split <;> omega
    omega
  have m0 : 0 ≤ mn (l.length : Int) (mx 0 (most - busy)) := by unfold mn mx; split <;> split <;> omega
  have m1 : mn (l.length : Int) (mx 0 (most - busy)) ≤ (l.length : Int) := by unfold mn mx; split <;> split <;> omega
  refine ev_unroll ?_
  simp only [impl_Shed.l0, if_neg (show ¬ (l.length : Int) < (l.length : Int) by omega), w64 (x := most - busy) (by omega) (by omega), rng_length, Nat.sub_zero, if_pos m0, if_pos m1]
  refine Ev.bind (stable_ev l hcl (by omega)) ?_
  simp only [Option.bind_some, slices_Sort_int_int.f]
  rw [if_pos (show ((ord l (rng 0 l.length)).take (mn (l.length : Int) (mx 0 (most - busy))).toNat).length < 4611686018427387904 by have := hlen; unfold inS at this; omega)]
  simp only [Option.bind_some]
  have hs : (HandSort.sorted (inS l (most - busy))).length = (inS l (most - busy)).length := List.length_mergeSort _
  have h := impl_out l hcl hn (HandSort.sorted (inS l (most - busy))) (fun x hx => inS_mem l hcl hn (List.mem_mergeSort.mp hx)) (by omega) _ 0 [] rfl (by omega) rfl
  rw [hs] at h
  simpa [inS] using h
theorem impl_fill (busy most : Int) (r : List S43 × Bool) (H : Ev (fun k => impl_Shed.l0 k busy most l (rng 0 l.length) (l.length : Int) (l.length : Int)) r) : ∀ (d i : Nat) (y : List Int), l.length - i = d → i ≤ l.length → y.length = l.length → y.take i = (rng 0 l.length).take i →
    Ev (fun k => impl_Shed.l0 k busy most l y (l.length : Int) (i : Int)) r := by
  intro d
  induction d with
  | zero =>
    intro i y hd hi hy ht
    rw [List.take_of_length_le (by omega), List.take_of_length_le (by rw [rng_length]; omega)] at ht
    subst ht
    rw [show i = l.length from by omega]
    exact H
  | succ d ih =>
    intro i y hd hi hy ht
    have h := ih (i + 1) (y.set i (i : Int)) (by omega) (by omega) (by simp [hy]) (by
      have h2 := take_set_succ (l := y) (m := rng 0 l.length) 0 (by rw [rng_length]; omega) ht (by rw [rng_length]; omega)
      rw [show (rng 0 l.length).getD i 0 = (i : Int) from by simp [rng, show i < l.length from by omega]] at h2
      exact h2)
    refine ev_unroll ?_
    simp only [impl_Shed.l0, if_pos (show (i : Int) < (l.length : Int) by omega), if_pos (show 0 ≤ (i : Int) by omega), hy, w64 (x := (i : Int) + 1) (by omega) (by omega)]
    simpa using h
end
/-! the reference -/
def mkf (fl : List Bool) (L : List Int) : List Bool := L.foldl (fun f i => f.set i.toNat true) fl
theorem mkf_length : ∀ (L : List Int) (fl : List Bool), (mkf fl L).length = fl.length := by
  intro L
  induction L with
  | nil => intro fl; rfl
  | cons x L ih => intro fl; show (mkf (fl.set x.toNat true) L).length = _; rw [ih]; simp
theorem mkf_at : ∀ (L : List Int) (fl : List Bool) (i : Nat), i < fl.length → (∀ x ∈ L, 0 ≤ x) → ((mkf fl L).getD i false = true ↔ fl.getD i false = true ∨ (i : Int) ∈ L) := by
  intro L
  induction L with
  | nil => intro fl i _ _; simp [mkf]
  | cons x L ih =>
    intro fl i hi hL
    have hx := hL x (by simp)
    show ((mkf (fl.set x.toNat true) L).getD i false = true) ↔ _
    rw [ih _ i (by simpa using hi) (fun y hy => hL y (List.mem_cons_of_mem _ hy)), List.mem_cons]
    by_cases e : x.toNat = i
    · have e2 : (i : Int) = x := by omega
      simp [e, hi, e2]
    · have e2 : ¬ (i : Int) = x := by omega
      simp [List.getElem?_set_ne e, e2]
section
variable (l : List S43) (hn : l.length ≤ 200)
include hn
theorem spec_out (fl : List Bool) (hf : fl.length = l.length) : ∀ (d i : Nat) (o : List S43), l.length - i = d → i ≤ l.length → o.length ≤ i →
    Ev (fun k => spec_Shed.l2 k l o fl (i : Int)) (o ++ ((rng i l.length).filter (fun x => fl.getD x.toNat false)).map (fun x => rd_T43 l x), true) := by
  intro d
  induction d with
  | zero =>
    intro i o hd hi ho
    refine ev_unroll ?_
    simp only [spec_Shed.l2, if_neg (show ¬ (i : Int) < (l.length : Int) by omega)]
    rw [rng_nil _ _ (by omega)]
    simpa using Ev.now _
  | succ d ih =>
    intro i o hd hi ho
    refine ev_unroll ?_
    simp only [spec_Shed.l2, if_pos (show (i : Int) < (l.length : Int) by omega), if_pos (show 0 ≤ (i : Int) by omega), hf, w64 (x := (i : Int) + 1) (by omega) (by omega)]
    rw [rng_cons _ _ (show i < l.length by omega)]
    by_cases c : rdOf false fl (i : Int) = true
    · have h := ih (i + 1) (o ++ [rd_T43 l (i : Int)]) (by omega) (by omega) (by simp; omega)
      simp only [if_pos c, if_pos (show o.length < 5864062014805 by omega)]
      rw [List.filter_cons_of_pos (by simpa [rdOf] using c)]
      simpa using h
    · have h := ih (i + 1) o (by omega) (by omega) (by omega)
      simp only [if_neg c]
      rw [List.filter_cons_of_neg (by simpa [rdOf] using c)]
      simpa using h
theorem spec_class (o : List S43) (c : Int) (Q : List Int) (r : List S43 × Bool) (H : ∀ (room : Int) (fl : List Bool), room ≤ 10000 → -10000 ≤ room → fl.length = l.length → Ev (fun k => spec_Shed.l2 k l o (mkf fl (Q.take room.toNat)) 0) r → Ev (fun k => spec_Shed.l0 k l o room fl (c + 1)) r) (hc0 : 0 ≤ c) (hc1 : c ≤ 3) :
    ∀ (d i : Nat) (room : Int) (fl : List Bool), l.length - i = d → i ≤ l.length → room ≤ 10000 → -10000 ≤ room → fl.length = l.length → Ev (fun k => spec_Shed.l2 k l o (mkf fl ((ofC l c (rng i l.length) ++ Q).take room.toNat)) 0) r → Ev (fun k => spec_Shed.l1 k l o room fl c (i : Int)) r := by
  intro d
  induction d with
  | zero =>
    intro i room fl hd hi hr hr2 hf h
    refine ev_unroll ?_
    simp only [spec_Shed.l1, if_neg (show ¬ (i : Int) < (l.length : Int) by omega), w64 (x := c + 1) (by omega) (by omega)]
    refine H room fl hr hr2 hf ?_
    rw [rng_nil _ _ (by omega)] at h
    simpa [ofC] using h
  | succ d ih =>
    intro i room fl hd hi hr hr2 hf h
    rw [rng_cons _ _ (show i < l.length by omega), ofC_cons] at h
    refine ev_unroll ?_
    simp only [spec_Shed.l1, if_pos (show (i : Int) < (l.length : Int) by omega), if_pos (show 0 ≤ (i : Int) by omega), w64 (x := (i : Int) + 1) (by omega) (by omega), hf]
    by_cases c1 : cl l (i : Int) = c
    · rw [if_pos c1] at h
      simp only [if_pos (show (rd_T43 l (i : Int)).f2 = c from c1)]
      by_cases c2 : room > 0
      · simp only [if_pos c2, w64 (x := room - 1) (by omega) (by omega)]
        have e : room.toNat = (room - 1).toNat + 1 := by omega
        rw [e] at h
        have h2 := ih (i + 1) (room - 1) (fl.set i true) (by omega) (by omega) (by omega) (by omega) (by simpa using hf) (by simpa [mkf] using h)
        simpa using h2
      · simp only [if_neg c2]
        have e : room.toNat = 0 := by omega
        rw [e] at h
        have h2 := ih (i + 1) room fl (by omega) (by omega) hr hr2 hf (by rw [e]; simpa using h)
        simpa using h2
    · rw [if_neg c1] at h
      simp only [if_neg (show ¬ (rd_T43 l (i : Int)).f2 = c from c1)]
      have h2 := ih (i + 1) room fl (by omega) (by omega) hr hr2 hf h
      simpa using h2
theorem spec_go (o : List S43) (room : Int) (hr : room ≤ 10000) (hr2 : -10000 ≤ room) (fl : List Bool) (hf : fl.length = l.length) (r : List S43 × Bool) (h : Ev (fun k => spec_Shed.l2 k l o (mkf fl ((ord l (rng 0 l.length)).take room.toNat)) 0) r) : Ev (fun k => spec_Shed.l0 k l o room fl 0) r := by
  have s4 : ∀ (room : Int) (fl : List Bool), room ≤ 10000 → -10000 ≤ room → fl.length = l.length → Ev (fun k => spec_Shed.l2 k l o (mkf fl (([] : List Int).take room.toNat)) 0) r → Ev (fun k => spec_Shed.l0 k l o room fl (3 + 1)) r := by
    intro room fl _ _ _ h
    refine ev_unroll ?_
    simp only [spec_Shed.l0, if_neg (show ¬ (3 + 1 : Int) ≤ 3 by omega)]
    simpa [mkf] using h
  have st : ∀ (c : Int) (Q : List Int), 0 ≤ c → c ≤ 3 → (∀ (room : Int) (fl : List Bool), room ≤ 10000 → -10000 ≤ room → fl.length = l.length → Ev (fun k => spec_Shed.l2 k l o (mkf fl (Q.take room.toNat)) 0) r → Ev (fun k => spec_Shed.l0 k l o room fl (c + 1)) r) →
      ∀ (room : Int) (fl : List Bool), room ≤ 10000 → -10000 ≤ room → fl.length = l.length → Ev (fun k => spec_Shed.l2 k l o (mkf fl ((ofC l c (rng 0 l.length) ++ Q).take room.toNat)) 0) r → Ev (fun k => spec_Shed.l0 k l o room fl c) r := by
    intro c Q h0 h1 H room fl hr hr2 hf h
    refine ev_unroll ?_
    simp only [spec_Shed.l0, if_pos h1]
    exact spec_class l hn o c Q r H h0 h1 _ 0 room fl rfl (by omega) hr hr2 hf h
  refine st 0 (ofC l 1 (rng 0 l.length) ++ (ofC l 2 (rng 0 l.length) ++ ofC l 3 (rng 0 l.length))) (by omega) (by omega) (st 1 _ (by omega) (by omega) (st 2 _ (by omega) (by omega) (fun room fl a b c h => st 3 [] (by omega) (by omega) s4 room fl a b c (by simpa using h)))) room fl hr hr2 hf h
end
theorem shed_both (l : List S43) (busy most : Int) (hl : l.length ≤ 1048576) : Ev (fun k => spec_Shed.f k l busy most) (shedR l busy most) ∧ Ev (fun k => impl_Shed.f k l busy most) (shedR l busy most) := by
  obtain ⟨b, ps, pi, hb⟩ := arr_spec l hl
  have noS : ∀ x1 x2, Ev (fun k => spec_Shed.j0 k l x1 x2 [] true) ([], false) := fun x1 x2 => ev_unroll (by simp only [spec_Shed.j0, if_true]; exact Ev.now _)
  have noI : ∀ x1 x2, Ev (fun k => impl_Shed.j0 k x1 x2 l true) ([], false) := fun x1 x2 => ev_unroll (by simp only [impl_Shed.j0, if_true]; exact Ev.now _)
  by_cases hO : b = true
  · have ok := hb.mp hO
    subst hO
    by_cases h1 : 0 ≤ busy ∧ busy ≤ 10000
    · by_cases h2 : 0 ≤ most ∧ most ≤ 10000
      · have hcl : ∀ x ∈ l, 0 ≤ x.f2 ∧ x.f2 ≤ 3 := fun x hx => (ok.1 x hx).2.2
        have hn := ok.2
        have er : shedR l busy most = ((HandSort.sorted (inS l (most - busy))).map (fun i => rd_T43 l i), true) := by
          unfold shedR; rw [if_pos ⟨ok, h1, h2⟩]
        rw [er]
        constructor
        · simp only [spec_Shed.f, Option.bind_some]
          refine Ev.bind ps ?_
          simp only [if_true, l1In_t h1.1 h1.2, l1In_t h2.1 h2.2, Option.bind_some, Bool.not_true]
          refine ev_unroll ?_
          simp only [spec_Shed.j0, Bool.false_eq_true, if_false, if_pos (show 0 ≤ (l.length : Int) by omega), Int.toNat_natCast, if_pos (show l.length ≤ 281474976710656 by omega), w64 (x := most - busy) (by omega) (by omega)]
          refine spec_go l hn [] (most - busy) (by omega) (by omega) _ (by simp) _ ?_
          have hR : ∀ x ∈ (ord l (rng 0 l.length)).take (most - busy).toNat, 0 ≤ x ∧ x < (l.length : Int) := fun x hx => by
            have := (seg_mem l hcl 0 l.length (by omega) x).mp (List.mem_of_mem_take hx); omega
          have h := spec_out l hn (mkf (List.replicate l.length false) ((ord l (rng 0 l.length)).take (most - busy).toNat)) (by rw [mkf_length]; simp) _ 0 [] rfl (by omega) (by simp)
          have e : (rng 0 l.length).filter (fun x => (mkf (List.replicate l.length false) ((ord l (rng 0 l.length)).take (most - busy).toNat)).getD x.toNat false) = HandSort.sorted (inS l (most - busy)) := by
            refine uniq (R := fun a b : Int => a < b) (fun a h => by omega) (fun a b h h' => by omega) _ _ ((rng_lt 0 l.length).filter _) (sorted_lt l hcl (most - busy)) (fun x => ?_)
            rw [List.mem_filter, List.mem_mergeSort, mem_rng]
            have eT : inS l (most - busy) = (ord l (rng 0 l.length)).take (most - busy).toNat := by
              unfold inS
              have ll := seg_length l hcl 0 l.length (by omega)
              by_cases g : (most - busy).toNat ≤ l.length
              · congr 1; unfold mn mx; split <;> split <;> omega
              · have e2 : mn (l.length : Int) (mx 0 (most - busy)) = (l.length : Int) := by unfold mn mx; split <;> split <;> omega
                rw [e2, List.take_of_length_le (by omega), List.take_of_length_le (by omega)]
            rw [eT]
            constructor
            · rintro ⟨⟨a1, a2⟩, a3⟩
              have h3 := (mkf_at _ (List.replicate l.length false) x.toNat (by simp; omega) (fun y hy => (hR y hy).1)).mp a3
              rcases h3 with h3 | h3
              · simp [List.getElem?_replicate] at h3; split at h3 <;> simp at h3
              · rw [show ((x.toNat : Nat) : Int) = x from by omega] at h3; exact h3
            · intro a
              have h3 := hR x a
              exact ⟨⟨by omega, h3.2⟩, (mkf_at _ (List.replicate l.length false) x.toNat (by simp; omega) (fun y hy => (hR y hy).1)).mpr (.inr (by rw [show ((x.toNat : Nat) : Int) = x from by omega]; exact a))⟩
          rw [e] at h
          simpa using h
        · simp only [impl_Shed.f]
          refine Ev.bind pi ?_
          simp only [if_true, in_t h1.1 h1.2, in_t h2.1 h2.2, Option.bind_some, Bool.not_true]
          refine ev_unroll ?_
          simp only [impl_Shed.j0, Bool.false_eq_true, if_false, if_pos (show 0 ≤ (l.length : Int) by omega), Int.toNat_natCast, if_pos (show l.length ≤ 35184372088832 by omega), Option.bind_some, List.length_replicate]
          have h := impl_fill l hcl hn busy most _ (impl_go l hcl hn busy most h1 h2) _ 0 (List.replicate l.length 0) rfl (by omega) (by simp) (by simp)
          simpa using h
      · have er : shedR l busy most = ([], false) := by unfold shedR; rw [if_neg (fun h => h2 h.2.2)]
        rw [er]
        constructor
        · simp only [spec_Shed.f, Option.bind_some]
          refine Ev.bind ps ?_
          simp only [if_true, l1In_t h1.1 h1.2, l1In_f h2, Option.bind_some, Bool.not_false]
          exact noS _ _
        · simp only [impl_Shed.f]
          refine Ev.bind pi ?_
          simp only [if_true, in_t h1.1 h1.2, in_f h2, Option.bind_some, Bool.not_false]
          exact noI _ _
    · have er : shedR l busy most = ([], false) := by unfold shedR; rw [if_neg (fun h => h1 h.2.1)]
      rw [er]
      constructor
      · simp only [spec_Shed.f, Option.bind_some]
        refine Ev.bind ps ?_
        simp only [if_true, l1In_f h1, Option.bind_some, Bool.false_eq_true, if_false]
        exact noS _ _
      · simp only [impl_Shed.f]
        refine Ev.bind pi ?_
        simp only [if_true, in_f h1, Option.bind_some, Bool.false_eq_true, if_false]
        exact noI _ _
  · have er : shedR l busy most = ([], false) := by unfold shedR; rw [if_neg (fun h => hO (hb.mpr h.1))]
    rw [er]
    obtain rfl : b = false := by simpa using hO
    constructor
    · simp only [spec_Shed.f, Option.bind_some]
      refine Ev.bind ps ?_
      simp only [Bool.false_eq_true, if_false]
      exact noS _ _
    · simp only [impl_Shed.f]
      refine Ev.bind pi ?_
      simp only [Bool.false_eq_true, if_false]
      exact noI _ _
theorem shedR_length (l : List S43) (busy most : Int) : (shedR l busy most).1.length ≤ 200 := by
  unfold shedR
  split
  · rename_i h
    simp only [List.length_map]
    have h1 : (HandSort.sorted (inS l (most - busy))).length = (inS l (most - busy)).length := List.length_mergeSort _
    have h2 := (inS_sub l (most - busy)).length_le
    rw [seg_length l (fun x hx => (h.1.1 x hx).2.2) 0 l.length (by omega)] at h2
    omega
  · simp
theorem drawShed_ev (l0 : List Int) (hb : l0.length ≤ 1048576) : ∃ (l : List S43) (b m : Int), l.length ≤ 3000 ∧ Ev (fun k => spec_DrawShed.f k l0) (l, b, m) := by
  obtain ⟨h, e⟩ := l1New_ev l0
  obtain ⟨l, i1, s1, hl, j1, j2, hd⟩ := drawAny_ev l0 l0 hb hb 0 h (by omega) (by omega)
  obtain ⟨x, i2, s2, e2, _, u1, u2⟩ := l1PickInt_some l0 i1 s1 [0, 5, 10, 10000, 10001, (-1), 7] (by decide) hb j1 j2
  obtain ⟨y, i3, s3, e3, _, _, _⟩ := l1PickInt_some l0 i2 s2 [0, 5, 8, 15, 30, 10000, 10001, (-1), 12] (by decide) hb u1 u2
  refine ⟨l, x, y, hl, ?_⟩
  simp only [spec_DrawShed.f]
  refine Ev.bind e (Ev.bind hd ?_)
  simp only [e2, e3, Option.bind_some]
  exact Ev.now _
/-- How many calls of a class there are. -/
def cC (L : List S43) (c : Int) : Int := ((L.filter (fun x => decide (x.f2 = c))).length : Int)
def cv (L : List S43) : List Int := [cC L 0, cC L 1, cC L 2, cC L 3]
theorem cC_le (L : List S43) (c : Int) : 0 ≤ cC L c ∧ cC L c ≤ (L.length : Int) := by
  unfold cC
  have := List.length_filter_le (fun x : S43 => decide (x.f2 = c)) L
  omega
theorem cC_snoc (L : List S43) (x : S43) (c : Int) : cC (L ++ [x]) c = if x.f2 = c then cC L c + 1 else cC L c := by
  unfold cC
  by_cases h : x.f2 = c
  · simp [List.filter_append, h]
  · simp [List.filter_append, h]
theorem cv_rd (L : List S43) (c : Int) (h : 0 ≤ c ∧ c ≤ 3) : rd (cv L) c = cC L c := by
  have : c = 0 ∨ c = 1 ∨ c = 2 ∨ c = 3 := by omega
  rcases this with rfl | rfl | rfl | rfl <;> rfl
theorem cv_snoc (L : List S43) (x : S43) (h : 0 ≤ x.f2 ∧ x.f2 ≤ 3) : (cv L).set x.f2.toNat (cC L x.f2 + 1) = cv (L ++ [x]) := by
  have : x.f2 = 0 ∨ x.f2 = 1 ∨ x.f2 = 2 ∨ x.f2 = 3 := by omega
  unfold cv
  simp only [cC_snoc]
  rcases this with e | e | e | e <;> simp [e]
theorem snoc43 (l : List S43) (i : Nat) (h : i < l.length) : l.take i ++ [rd_T43 l (i : Int)] = l.take (i + 1) := by
  rw [take_getD z43 h]; simp [rd_T43]
section
variable (l out : List S43) (room : Int)
theorem kept_l2 (r : Bool) (hr : r = ((out.length : Int) == room)) (hk : ∀ c : Int, 1 ≤ c → c ≤ 3 → 0 < cC out c → ¬ cC out (c - 1) < cC l (c - 1)) : ∀ (d : Nat) (i : Int), 4 - i ≤ d → 1 ≤ i → i ≤ 4 → Ev (fun k => laws_FnShedKept.l2 k out room (cv l) (cv out) i) r := by
  have fin : Ev (fun k => laws_FnShedKept.l2 k out room (cv l) (cv out) 4) r := by
    refine ev_unroll ?_
    simp only [laws_FnShedKept.l2, if_neg (show ¬ (4 : Int) < 4 by omega), hr]
    exact Ev.now _
  have l4 : ∀ L : List S43, (((cv L).length : Nat) : Int) = 4 := fun _ => rfl
  intro d
  induction d with
  | zero => intro i h1 h2 h3; rw [show i = 4 from by omega]; exact fin
  | succ d ih =>
    intro i h1 h2 h3
    by_cases e : i = 4
    · rw [e]; exact fin
    have h := ih (i + 1) (by omega) (by omega) (by omega)
    refine ev_unroll ?_
    simp only [laws_FnShedKept.l2, if_pos (show i < 4 by omega), if_pos (show 0 ≤ i by omega), l4, w64 (x := i - 1) (by omega) (by omega), w64 (x := i + 1) (by omega) (by omega), cv_rd out i (by omega), cv_rd out (i - 1) (by omega), cv_rd l (i - 1) (by omega), if_pos (show 0 ≤ i - 1 by omega), if_pos (show i - 1 < 4 by omega)]
    by_cases c : cC out i > 0
    · simp only [if_pos c, if_neg (hk i (by omega) (by omega) c)]
      exact h
    · simp only [if_neg c]
      exact h
theorem kept_l1 (hc : ∀ x ∈ out, 0 ≤ x.f2 ∧ x.f2 ≤ 3) (hn : out.length ≤ 1000) (r : Bool) (H : Ev (fun k => laws_FnShedKept.l2 k out room (cv l) (cv out) 1) r) : ∀ (d i : Nat), out.length - i = d → i ≤ out.length → Ev (fun k => laws_FnShedKept.l1 k out room (cv l) (cv (out.take i)) (i : Int)) r := by
  intro d
  induction d with
  | zero =>
    intro i hd hi
    refine ev_unroll ?_
    simp only [laws_FnShedKept.l1, if_neg (show ¬ (i : Int) < (out.length : Int) by omega)]
    rw [List.take_of_length_le (by omega)]
    exact H
  | succ d ih =>
    intro i hd hi
    have hx := hc _ (rd43_mem (l := out) (i := (i : Int)) (by omega) (by omega))
    have h := ih (i + 1) (by omega) (by omega)
    have hb := cC_le (out.take i) (rd_T43 out (i : Int)).f2
    have hb2 : (out.take i).length ≤ 1000 := by simp; omega
    have l4 : ∀ L : List S43, (((cv L).length : Nat) : Int) = 4 := fun _ => rfl
    refine ev_unroll ?_
    simp only [laws_FnShedKept.l1, if_pos (show (i : Int) < (out.length : Int) by omega), if_pos (show 0 ≤ (i : Int) by omega), if_neg (show ¬ (rd_T43 out (i : Int)).f2 < 0 by omega), if_neg (show ¬ (rd_T43 out (i : Int)).f2 > 3 by omega), if_pos hx.1, l4, if_pos (show (rd_T43 out (i : Int)).f2 < 4 by omega), cv_rd _ _ hx, w64 (x := (i : Int) + 1) (by omega) (by omega), w64 (x := cC (out.take i) (rd_T43 out (i : Int)).f2 + 1) (by omega) (by omega)]
    rw [cv_snoc _ _ hx, snoc43 out i (by omega)]
    simpa using h
theorem kept_l0 (hc : ∀ x ∈ l, 0 ≤ x.f2 ∧ x.f2 ≤ 3) (hn : l.length ≤ 1000) (r : Bool) (H : Ev (fun k => laws_FnShedKept.l1 k out room (cv l) (cv []) 0) r) : ∀ (d i : Nat), l.length - i = d → i ≤ l.length → Ev (fun k => laws_FnShedKept.l0 k l out room (cv (l.take i)) (cv []) (i : Int)) r := by
  intro d
  induction d with
  | zero =>
    intro i hd hi
    refine ev_unroll ?_
    simp only [laws_FnShedKept.l0, if_neg (show ¬ (i : Int) < (l.length : Int) by omega)]
    rw [List.take_of_length_le (by omega)]
    exact H
  | succ d ih =>
    intro i hd hi
    have hx := hc _ (rd43_mem (l := l) (i := (i : Int)) (by omega) (by omega))
    have h := ih (i + 1) (by omega) (by omega)
    have hb := cC_le (l.take i) (rd_T43 l (i : Int)).f2
    have hb2 : (l.take i).length ≤ 1000 := by simp; omega
    have l4 : ∀ L : List S43, (((cv L).length : Nat) : Int) = 4 := fun _ => rfl
    refine ev_unroll ?_
    simp only [laws_FnShedKept.l0, if_pos (show (i : Int) < (l.length : Int) by omega), if_pos (show 0 ≤ (i : Int) by omega), if_pos hx.1, l4, if_pos (show (rd_T43 l (i : Int)).f2 < 4 by omega), cv_rd _ _ hx, w64 (x := (i : Int) + 1) (by omega) (by omega), w64 (x := cC (l.take i) (rd_T43 l (i : Int)).f2 + 1) (by omega) (by omega)]
    rw [cv_snoc _ _ hx, snoc43 l i (by omega)]
    simpa using h
end
/-! none of a greater class while one of a lesser is refused -/
theorem cC_map (l : List S43) (xs : List Int) (c : Int) : cC (xs.map fun i => rd_T43 l i) c = ((ofC l c xs).length : Int) := by
  unfold cC ofC cl
  rw [List.filter_map, List.length_map]
  rfl
theorem map_rng (l : List S43) : ((rng 0 l.length).map fun i => rd_T43 l i) = l := by
  refine List.ext_getElem (by simp [rng]) (fun i h1 h2 => ?_)
  simp [rng, rd_T43, h2]
theorem ofC_app (l : List S43) (c : Int) (A B : List Int) : ofC l c (A ++ B) = ofC l c A ++ ofC l c B := by simp [ofC]
theorem ofC_self (l : List S43) (c : Int) (xs : List Int) : ofC l c (ofC l c xs) = ofC l c xs := by simp [ofC]
theorem take_past {A B : List Int} {n : Nat} {x : Int} (h : x ∈ (A ++ B).take n) (hA : x ∉ A) : (A ++ B).take n = A ++ B.take (n - A.length) := by
  rw [List.take_append] at h ⊢
  rcases List.mem_append.mp h with h | h
  · exact absurd (List.mem_of_mem_take h) hA
  · have : n - A.length ≠ 0 := by intro e; rw [e] at h; simp at h
    rw [List.take_of_length_le (by omega)]
theorem lesser (l : List S43) (A B C : List Int) (n : Nat) (c : Int) (xs : List Int) (hB : B = ofC l (c - 1) xs) (hA : ∀ x ∈ A, cl l x < c - 1) (h : 0 < (ofC l c ((A ++ (B ++ C)).take n)).length) : (ofC l (c - 1) xs).length ≤ (ofC l (c - 1) ((A ++ (B ++ C)).take n)).length := by
  obtain ⟨x, hx⟩ := List.exists_mem_of_length_pos h
  have hx2 := mem_ofC.mp hx
  have hx1 := hx2.1
  rw [← List.append_assoc] at hx1 ⊢
  rw [take_past hx1 (fun hm => by
    rcases List.mem_append.mp hm with hm | hm
    · have := hA x hm; omega
    · rw [hB] at hm; have := (mem_ofC.mp hm).2; omega)]
  rw [List.append_assoc, ofC_app, ofC_app, hB, ofC_self]
  simp only [List.length_append]
  omega
theorem inS_kept (l : List S43) (n : Nat) (c : Int) (h1 : 1 ≤ c) (h3 : c ≤ 3) (h : 0 < (ofC l c ((ord l (rng 0 l.length)).take n)).length) : (ofC l (c - 1) (rng 0 l.length)).length ≤ (ofC l (c - 1) ((ord l (rng 0 l.length)).take n)).length := by
  have hc : c = 1 ∨ c = 2 ∨ c = 3 := by omega
  unfold ord at h ⊢
  rcases hc with rfl | rfl | rfl
  · exact lesser l [] (ofC l 0 (rng 0 l.length)) _ n 1 _ rfl (by simp) (by simpa using h)
  · exact lesser l (ofC l 0 (rng 0 l.length)) (ofC l 1 (rng 0 l.length)) _ n 2 _ rfl (fun x hx => by have := (mem_ofC.mp hx).2; omega) h
  · rw [← List.append_assoc] at h ⊢
    exact lesser l (ofC l 0 (rng 0 l.length) ++ ofC l 1 (rng 0 l.length)) (ofC l 2 (rng 0 l.length)) _ n 3 _ rfl (fun x hx => by
      rcases List.mem_append.mp hx with hx | hx <;> (have := (mem_ofC.mp hx).2; omega)) h
/-- The law of the calls that are let in. -/
theorem kept_in (l : List S43) (busy most : Int) (hl : l.length ≤ 1048576) : Ev (fun k => laws_FnShedKept.j0 k l busy most (shedR l busy most).1 (shedR l busy most).2 false) true := by
  refine ev_unroll ?_
  simp only [laws_FnShedKept.j0, Bool.false_eq_true, if_false]
  by_cases hO : ((∀ x ∈ l, ArOk x) ∧ l.length ≤ 200) ∧ (0 ≤ busy ∧ busy ≤ 10000) ∧ (0 ≤ most ∧ most ≤ 10000)
  · have er : shedR l busy most = ((HandSort.sorted (inS l (most - busy))).map (fun i => rd_T43 l i), true) := by
      unfold shedR; rw [if_pos hO]
    rw [er]
    have hcl : ∀ x ∈ l, 0 ≤ x.f2 ∧ x.f2 ≤ 3 := fun x hx => (hO.1.1 x hx).2.2
    have hn := hO.1.2
    have hlen : ((HandSort.sorted (inS l (most - busy))).length : Int) = mn (l.length : Int) (mx 0 (most - busy)) := by
      rw [List.length_mergeSort]
      unfold inS
      rw [List.length_take, seg_length l hcl 0 l.length (by omega)]
      unfold mn mx; split <;> split <;> omega
    have fin : ∀ room : Int, room = mn (l.length : Int) (mx 0 (most - busy)) → Ev (fun k => laws_FnShedKept.j2 k l ((HandSort.sorted (inS l (most - busy))).map (fun i => rd_T43 l i)) room) true := by
      intro room hr
      refine ev_unroll ?_
      simp only [laws_FnShedKept.j2, if_pos (show 4 ≤ 35184372088832 by omega)]
      have ho : ∀ x ∈ (HandSort.sorted (inS l (most - busy))).map (fun i => rd_T43 l i), 0 ≤ x.f2 ∧ x.f2 ≤ 3 := by
        intro x hx
        obtain ⟨i, hi, rfl⟩ := List.mem_map.mp hx
        have := inS_mem l hcl hn (List.mem_mergeSort.mp hi)
        exact hcl _ (rd43_mem this.1 this.2)
      have h := kept_l0 l _ room hcl (by omega) true (kept_l1 l _ room ho (by simp only [List.length_map]; unfold mn mx at hlen; split at hlen <;> split at hlen <;> omega) true (kept_l2 l _ room true (by simp only [List.length_map, hlen, hr, beq_self_eq_true]) (fun c h1 h3 hp => by
        have e1 : ∀ c, cC ((HandSort.sorted (inS l (most - busy))).map (fun i => rd_T43 l i)) c = ((ofC l c (inS l (most - busy))).length : Int) := fun c => by
          rw [cC_map]
          congr 1
          exact ((List.mergeSort_perm _ _).filter _).length_eq
        have e2 : cC l (c - 1) = ((ofC l (c - 1) (rng 0 l.length)).length : Int) := by
          have := cC_map l (rng 0 l.length) (c - 1)
          rw [map_rng] at this
          exact this
        rw [e1] at hp ⊢
        rw [e2]
        have := inS_kept l (mn (l.length : Int) (mx 0 (most - busy))).toNat c h1 h3 (by unfold inS at hp; omega)
        unfold inS
        omega) 3 1 (by omega) (by omega) (by omega)) _ 0 rfl (by omega)) _ 0 rfl (by omega)
      exact h
    have hw : wrap64 (most - busy) = most - busy := w64 (by omega) (by omega)
    have j1 : ∀ room : Int, mn (l.length : Int) room = mn (l.length : Int) (mx 0 (most - busy)) → Ev (fun k => laws_FnShedKept.j1 k l ((HandSort.sorted (inS l (most - busy))).map (fun i => rd_T43 l i)) room) true := by
      intro room hr
      refine ev_unroll ?_
      simp only [laws_FnShedKept.j1]
      by_cases h : room > (l.length : Int)
      · simp only [if_pos h]
        exact fin _ (by rw [← hr]; unfold mn; split <;> omega)
      · simp only [if_neg h]
        exact fin _ (by rw [← hr]; unfold mn; split <;> omega)
    simp only [if_true, hw]
    by_cases h : most - busy < 0
    · simp only [if_pos h]
      exact j1 0 (by congr 1; unfold mx; split <;> omega)
    · simp only [if_neg h]
      exact j1 _ (by congr 1; unfold mx; split <;> omega)
  · have er : shedR l busy most = ([], false) := by unfold shedR; rw [if_neg hO]
    rw [er]
    simp only [Bool.false_eq_true, if_false, List.length_nil]
    exact Ev.now _
theorem small_ev : Ev (fun k => impl_Shed.f k [⟨0, 0, 3⟩, ⟨0, 0, 0⟩] 1 2) ([⟨0, 0, 0⟩], true) := by
  have h := (shed_both [⟨0, 0, 3⟩, ⟨0, 0, 0⟩] 1 2 (by decide)).2
  have e : shedR [⟨0, 0, 3⟩, ⟨0, 0, 0⟩] 1 2 = ([⟨0, 0, 0⟩], true) := by
    unfold shedR
    rw [if_pos ⟨⟨by intro x hx; simp only [List.mem_cons, List.not_mem_nil, or_false] at hx; rcases hx with rfl | rfl <;> (unfold ArOk; decide), by decide⟩, by decide, by decide⟩]
    have e1 : inS [⟨0, 0, 3⟩, ⟨0, 0, 0⟩] (2 - 1) = [1] := by decide
    rw [e1]
    simp [HandSort.sorted, rd_T43]
  rw [e] at h
  exact h
theorem FnShedKept : laws_FnShedKept.Pure := by
  intro l0 _ _ hw
  refine Ev.rounds (g := fun k => laws_FnShedKept.f k l0) ?_
  simp only [laws_FnShedKept.f, laws_big.f, Option.bind_some, decide_eq_true_eq]
  by_cases hb : (l0.length : Int) > 1048576
  · simp only [if_pos hb]
    exact Ev.now _
  simp only [if_neg hb]
  obtain ⟨l, b, m, hl, hd⟩ := drawShed_ev l0 (by omega)
  obtain ⟨ps, pi⟩ := shed_both l b m (by omega)
  have hk := kept_in l b m (by omega)
  refine Ev.bind hd (Ev.bind pi (Ev.bind ps ?_))
  simp only [bne_self_eq_false, Bool.false_eq_true, ↓reduceIte]
  refine Ev.bind small_ev ?_
  simp only [↓reduceIte, List.length_cons, List.length_nil, if_pos (show (((0 + 1 : Nat) : Int) = 1) from rfl), if_pos (show (0 : Int) < ((0 + 1 : Nat) : Int) by decide)]
  exact hk

end Go.Proofs.Ytakafcocojjeoaa.Pure
