/- The law FnExactContend: for all askers the program's Contend and the reference's tell the same, the askers stay as they were, and what is told is a list of its own. -/
import Derived.Test.YtheinelpeapleaaMFnExactContendx7
import Derived.Test.YtheinelpeapleaaKit
namespace Go.Proofs.Ytheinelpeapleaa.Pure
set_option linter.unusedSimpArgs false
set_option linter.unusedVariables false
set_option linter.unusedSectionVars false
open Go Go.RowKit Go.Proofs.Ytheinelpeapleaa.MFnExactContend Go.Proofs.YtheinelpeapleaaW.PrintWords Go.Proofs.YtheinelpeapleaaW.PrintLast Go.Proofs.Ytheinelpeapleaa.Mine

theorem in_t {a b c : Int} (h : b ≤ a) (h2 : a ≤ c) : impl_in.f a b c = some true := by
  unfold impl_in.f
  rw [if_pos (by omega)]; simp [h2]
theorem in_f {a b c : Int} (h : ¬ (b ≤ a ∧ a ≤ c)) : impl_in.f a b c = some false := by
  unfold impl_in.f
  by_cases g : a ≥ b
  · rw [if_pos g]; simp; omega
  · rw [if_neg g]
theorem l1In_t {a b c : Int} (h : b ≤ a) (h2 : a ≤ c) : spec_l1In.f a b c = some true := by
  unfold spec_l1In.f
  rw [if_pos (by omega)]; simp [h2]
theorem l1In_f {a b c : Int} (h : ¬ (b ≤ a ∧ a ≤ c)) : spec_l1In.f a b c = some false := by
  unfold spec_l1In.f
  by_cases g : a ≥ b
  · rw [if_pos g]; simp; omega
  · rw [if_neg g]
theorem toIntS_ev (x0 : List Int) (hn : x0.length ≤ 1048576) : Ev (fun k => laws_toIntS.f k x0) x0 := by
  have key : ∀ (d : Nat) (x3 : List Int) (i : Nat), x0.length - i = d → i ≤ x0.length → x3.length = x0.length → x3.take i = x0.take i → Ev (fun k => laws_toIntS.l0 k x0 x3 (i : Int)) x0 := by
    intro d
    induction d with
    | zero =>
      intro x3 i hd hi hl ht
      have e : x3 = x0 := by
        have h : i = x0.length := by omega
        rw [h, List.take_length, ← hl, List.take_length] at ht
        exact ht
      subst e
      refine ev_unroll ?_
      simp (disch := omega) only [laws_toIntS.l0, ↓if_neg]
      exact Ev.now _
    | succ d ih =>
      intro x3 i hd hi hl ht
      refine ev_unroll ?_
      simp (disch := omega) only [laws_toIntS.l0, ↓if_pos, w64]
      have h := ih (x3.set i (rd x0 i)) (i + 1) (by omega) (by omega) (by simp [hl]) (by rw [rd_nat]; exact take_set_succ 0 hl ht (by omega))
      simpa using h
  have h := key _ (List.replicate x0.length 0) 0 rfl (by omega) (by simp) (by simp)
  simp (disch := omega) only [laws_toIntS.f, ↓if_pos]
  simpa using h
theorem eqIntS_ev (x0 : List Int) (hn : x0.length ≤ 1048576) : Ev (fun k => laws_eqIntS.f k x0 x0) true := by
  have key : ∀ (d : Nat) (i : Nat), x0.length - i = d → i ≤ x0.length → Ev (fun k => laws_eqIntS.l0 k x0 x0 (i : Int)) true := by
    intro d
    induction d with
    | zero =>
      intro i hd hi
      refine ev_unroll ?_
      simp (disch := omega) only [laws_eqIntS.l0, ↓if_neg]
      exact Ev.now _
    | succ d ih =>
      intro i hd hi
      refine ev_unroll ?_
      simp (disch := omega) only [laws_eqIntS.l0, ↓if_pos, w64]
      have h := ih (i + 1) (by omega) (by omega)
      simpa using h
  have h := key _ 0 rfl (by omega)
  simp (disch := omega) only [laws_eqIntS.f, ↓if_pos]
  simpa using h
/-- What a marked list holds. -/
def marks (m : Int) (n : Nat) : List Int := (List.range n).map fun (j : Nat) => m + (j : Int)
theorem marks_length (m : Int) (n : Nat) : (marks m n).length = n := by simp [marks]
theorem rd_marks (m : Int) (n i : Nat) (h : i < n) : rd (marks m n) (i : Int) = m + i := by simp [rd, marks, h]
theorem markIntS_ev (x0 : List Int) (m : Int) (hm : 0 ≤ m) (hm2 : m ≤ 1000000000) (hn : x0.length ≤ 1048576) : Ev (fun k => laws_markIntS.f k x0 m) ((m + x0.length : Int), marks m x0.length) := by
  have key : ∀ (d : Nat) (y : List Int) (i : Nat), x0.length - i = d → i ≤ x0.length → y.length = x0.length → y.take i = (marks m x0.length).take i → Ev (fun k => laws_markIntS.l0 k y (m + (i : Int)) (i : Int)) ((m + x0.length : Int), marks m x0.length) := by
    intro d
    induction d with
    | zero =>
      intro y i hd hi hl ht
      have h : i = x0.length := by omega
      have e : y = marks m x0.length := by
        have h2 := ht
        rw [List.take_of_length_le (by omega), List.take_of_length_le (by rw [marks_length]; omega)] at h2
        exact h2
      refine ev_unroll ?_
      simp (disch := omega) only [laws_markIntS.l0, ↓if_neg]
      rw [h, e]
      exact Ev.now _
    | succ d ih =>
      intro y i hd hi hl ht
      refine ev_unroll ?_
      simp (disch := omega) only [laws_markIntS.l0, ↓if_pos, w64]
      have h := ih (y.set i (m + (i : Int))) (i + 1) (by omega) (by omega) (by simp [hl]) (by
        have h2 := take_set_succ (l := y) (m := marks m x0.length) 0 (by rw [marks_length]; exact hl) ht (by rw [marks_length]; omega)
        rw [show (marks m x0.length).getD i 0 = m + (i : Int) from by rw [← rd_nat, rd_marks _ _ _ (by omega)]] at h2
        exact h2)
      rw [show (m + (i : Int) + 1) = m + ((i + 1 : Nat) : Int) from by omega, show ((i : Int) + 1) = ((i + 1 : Nat) : Int) from by omega]
      simpa using h
  have h := key _ x0 0 rfl (by omega) rfl (by simp)
  simp only [laws_markIntS.f]
  simpa using h
theorem heldIntS_ev (n : Nat) (m : Int) (hm : 0 ≤ m) (hm2 : m ≤ 1000000000) (hn : n ≤ 1048576) : Ev (fun k => laws_heldIntS.f k (marks m n) m) (m + n : Int) := by
  have key : ∀ (d : Nat) (i : Nat), n - i = d → i ≤ n → Ev (fun k => laws_heldIntS.l0 k (marks m n) (m + (i : Int)) (i : Int)) (m + n : Int) := by
    intro d
    induction d with
    | zero =>
      intro i hd hi
      have h : i = n := by omega
      have hl := marks_length m n
      refine ev_unroll ?_
      simp (disch := omega) only [laws_heldIntS.l0, ↓if_neg]
      rw [h]
      exact Ev.now _
    | succ d ih =>
      intro i hd hi
      have hl := marks_length m n
      have hr := rd_marks m n i (by omega)
      refine ev_unroll ?_
      simp (disch := omega) only [laws_heldIntS.l0, ↓if_pos, w64]
      have h := ih (i + 1) (by omega) (by omega)
      rw [show (m + (i : Int) + 1) = m + ((i + 1 : Nat) : Int) from by omega, show ((i : Int) + 1) = ((i + 1 : Nat) : Int) from by omega]
      exact h
  have h := key _ 0 rfl (by omega)
  simp only [laws_heldIntS.f]
  simpa using h
def toA (l : List S53) : List S36 := l.map (fun x => ⟨x.f0⟩)
theorem toA_length (l : List S53) : (toA l).length = l.length := by simp [toA]
theorem rd_toA (l : List S53) (i : Int) : rd_T36 (toA l) i = ⟨(rd_T53 l i).f0⟩ := by
  simp only [rd_T36, rd_T53, toA, List.getD_eq_getElem?_getD, List.getElem?_map]
  cases l[i.toNat]? <;> rfl
theorem rd53_mem {l : List S53} {i : Int} (h0 : 0 ≤ i) (h1 : i < (l.length : Int)) : rd_T53 l i ∈ l := by
  have h : i.toNat < l.length := by omega
  have e : rd_T53 l i = l[i.toNat] := by simp [rd_T53, h]
  rw [e]; exact List.getElem_mem h
/-- How many numbers the first rows hold. -/
def tot (x0 : List S53) : Nat → Int
  | 0 => 0
  | i + 1 => tot x0 i + ((rd_T53 x0 (i : Int)).f0.length : Int)
theorem tot_nonneg (x0 : List S53) : ∀ i, 0 ≤ tot x0 i := by
  intro i
  induction i with
  | zero => simp [tot]
  | succ i ih => simp only [tot]; omega
theorem tot_le (x0 : List S53) (i : Nat) : ∀ d, tot x0 i ≤ tot x0 (i + d) := by
  intro d
  induction d with
  | zero => exact Int.le_refl _
  | succ d ih =>
    have : tot x0 (i + (d + 1)) = tot x0 (i + d) + ((rd_T53 x0 ((i + d : Nat) : Int)).f0.length : Int) := rfl
    omega
theorem szAskerS_ev (x0 : List S53) (hm : x0.length ≤ maxLen) (hr : ∀ x ∈ x0, x.f0.length ≤ maxLen) : ∃ v, Ev (fun k => laws_szAskerS.f k x0 1048576) v ∧ (0 ≤ v → (x0.length : Int) + tot x0 x0.length ≤ 1048576) := by
  have hM : maxLen = 9223372036854775807 := rfl
  have key : ∀ (d i : Nat) (v : Int), x0.length - i = d → i ≤ x0.length → 0 ≤ v → v = 1048576 - (x0.length : Int) - tot x0 i → ∃ r, Ev (fun k => laws_szAskerS.l0 k x0 v (i : Int)) r ∧ (0 ≤ r → (x0.length : Int) + tot x0 x0.length ≤ 1048576) := by
    intro d
    induction d with
    | zero =>
      intro i v hd hi h0 hv
      have h : i = x0.length := by omega
      have ht := tot_nonneg x0 i
      refine ⟨v, ev_unroll ?_, fun _ => by rw [← h]; rw [← h] at hv; omega⟩
      simp (disch := omega) only [laws_szAskerS.l0, ↓if_neg]
      exact Ev.now _
    | succ d ih =>
      intro i v hd hi h0 hv
      have ht := tot_nonneg x0 i
      have hrow := hr _ (rd53_mem (l := x0) (i := (i : Int)) (by omega) (by omega))
      by_cases hc : v - ((rd_T53 x0 (i : Int)).f0.length : Int) < 0
      · refine ⟨-1, ev_unroll ?_, fun h => by omega⟩
        simp (disch := omega) only [laws_szAskerS.l0, laws_szAsker.f, laws_szIntS.f, ↓if_pos, w64, Option.bind_some]
        exact Ev.now _
      · obtain ⟨r, p, q⟩ := ih (i + 1) (v - ((rd_T53 x0 (i : Int)).f0.length : Int)) (by omega) (by omega) (by omega) (by simp only [tot]; omega)
        refine ⟨r, ev_unroll ?_, q⟩
        simp (disch := omega) only [laws_szAskerS.l0, laws_szAsker.f, laws_szIntS.f, ↓if_pos, ↓if_neg, w64, Option.bind_some]
        simpa using p
  by_cases hc : 1048576 - (x0.length : Int) < 0
  · refine ⟨-1, ?_, fun h => by omega⟩
    simp (disch := omega) only [laws_szAskerS.f, ↓if_pos, w64]
    exact Ev.now _
  · obtain ⟨r, p, q⟩ := key x0.length 0 (1048576 - (x0.length : Int)) (by omega) (by omega) (by omega) (by simp [tot])
    refine ⟨r, ?_, q⟩
    simp (disch := omega) only [laws_szAskerS.f, ↓if_neg, w64]
    simpa using p
section
variable (x0 : List S53) (hs : (x0.length : Int) + tot x0 x0.length ≤ 1048576)
include hs
theorem ss_row (i : Nat) (hi : i < x0.length) : (rd_T53 x0 (i : Int)).f0.length ≤ 1048576 := by
  have h1 := tot_le x0 (i + 1) (x0.length - (i + 1))
  have h2 := tot_nonneg x0 i
  rw [show i + 1 + (x0.length - (i + 1)) = x0.length by omega] at h1
  simp only [tot] at h1
  omega
theorem ss_len : x0.length ≤ 1048576 := by
  have := tot_nonneg x0 x0.length
  omega
theorem ss_rows : ∀ x ∈ toA x0, x.f0.length ≤ 1048576 := by
  intro x hx
  obtain ⟨y, hy, rfl⟩ := List.mem_map.mp hx
  obtain ⟨i, hi, rfl⟩ := List.getElem_of_mem hy
  have h := ss_row x0 hs i hi
  have e : rd_T53 x0 (i : Int) = x0[i] := by simp [rd_T53, hi]
  rw [e] at h
  exact h
theorem toAskerS_ev : Ev (fun k => laws_toAskerS.f k x0) (toA x0) := by
  have hn := ss_len x0 hs
  have hL := toA_length x0
  have key : ∀ (d : Nat) (x3 : List S36) (i : Nat), x0.length - i = d → i ≤ x0.length → x3.length = (toA x0).length → x3.take i = (toA x0).take i → Ev (fun k => laws_toAskerS.l0 k x0 x3 (i : Int)) (toA x0) := by
    intro d
    induction d with
    | zero =>
      intro x3 i hd hi hl ht
      have e : x3 = toA x0 := by
        have h : i = (toA x0).length := by omega
        rw [h, List.take_length, ← hl, List.take_length] at ht
        exact ht
      subst e
      refine ev_unroll ?_
      simp (disch := omega) only [laws_toAskerS.l0, ↓if_neg]
      exact Ev.now _
    | succ d ih =>
      intro x3 i hd hi hl ht
      have hrow := ss_row x0 hs i (by omega)
      have e : (⟨(rd_T53 x0 (i : Int)).f0⟩ : S36) = (toA x0).getD i z36 := by
        have := rd_toA x0 (i : Int)
        simp only [rd_T36, Int.toNat_natCast] at this
        exact this.symm
      have h := ih (x3.set i ⟨(rd_T53 x0 (i : Int)).f0⟩) (i + 1) (by omega) (by omega) (by simp [hl]) (by rw [e]; exact take_set_succ z36 hl ht (by omega))
      refine ev_unroll ?_
      simp (disch := omega) only [laws_toAskerS.l0, laws_toAsker.f, ↓if_pos, w64]
      refine Ev.bind (Ev.bind (toIntS_ev _ hrow) (Ev.now _)) ?_
      simpa using h
  have h := key _ (List.replicate x0.length z36) 0 rfl (by omega) (by simp [hL]) (by simp)
  simp (disch := omega) only [laws_toAskerS.f, ↓if_pos]
  simpa using h
theorem eqAskerS_ev : Ev (fun k => laws_eqAskerS.f k (toA x0) (toA x0)) true := by
  have hn := ss_len x0 hs
  have hL := toA_length x0
  have key : ∀ (d : Nat) (i : Nat), x0.length - i = d → i ≤ x0.length → Ev (fun k => laws_eqAskerS.l0 k (toA x0) (toA x0) (i : Int)) true := by
    intro d
    induction d with
    | zero =>
      intro i hd hi
      refine ev_unroll ?_
      simp (disch := omega) only [laws_eqAskerS.l0, ↓if_neg]
      exact Ev.now _
    | succ d ih =>
      intro i hd hi
      have h := ih (i + 1) (by omega) (by omega)
      have hrow := ss_row x0 hs i (by omega)
      refine ev_unroll ?_
      simp (disch := omega) only [laws_eqAskerS.l0, laws_eqAsker.f, rd_toA, ↓if_pos, w64]
      refine Ev.bind (Ev.bind (eqIntS_ev _ hrow) (by simp only [↓reduceIte]; exact Ev.now true)) ?_
      simp only [↓reduceIte]
      simpa using h
  have h := key _ 0 rfl (by omega)
  simp (disch := omega) only [laws_eqAskerS.f, ↓if_pos]
  simpa using h
theorem markAskerS_ev : Ev (fun k => laws_markAskerS.f k (toA x0) 1) (1 + tot x0 x0.length) := by
  have hn := ss_len x0 hs
  have hL := toA_length x0
  have key : ∀ (d : Nat) (i : Nat), x0.length - i = d → i ≤ x0.length → Ev (fun k => laws_markAskerS.l0 k (toA x0) (1 + tot x0 i) (i : Int)) (1 + tot x0 x0.length) := by
    intro d
    induction d with
    | zero =>
      intro i hd hi
      have h : i = x0.length := by omega
      rw [h]
      refine ev_unroll ?_
      simp (disch := omega) only [laws_markAskerS.l0, ↓if_neg]
      exact Ev.now _
    | succ d ih =>
      intro i hd hi
      have h := ih (i + 1) (by omega) (by omega)
      have hrow := ss_row x0 hs i (by omega)
      have t0 := tot_nonneg x0 i
      have t1 := tot_le x0 i (x0.length - i)
      rw [show i + (x0.length - i) = x0.length by omega] at t1
      refine ev_unroll ?_
      simp (disch := omega) only [laws_markAskerS.l0, rd_toA, ↓if_pos, w64]
      refine Ev.bind (markIntS_ev _ (1 + tot x0 i) (by omega) (by omega) hrow) ?_
      simp only [tot] at h
      rw [Int.add_assoc]
      simpa using h
  exact key _ 0 rfl (by omega)
end
def CoinsOk (l : List Int) : Prop := ∀ c ∈ l, 0 ≤ c ∧ c ≤ 1000
def AskOk (A : List S36) : Prop := ∀ x ∈ A, CoinsOk x.f0
theorem rd36_mem {l : List S36} {i : Int} (h0 : 0 ≤ i) (h1 : i < (l.length : Int)) : rd_T36 l i ∈ l := by
  have h : i.toNat < l.length := by omega
  have e : rd_T36 l i = l[i.toNat] := by simp [rd_T36, h]
  rw [e]; exact List.getElem_mem h
theorem drop36 (l : List S36) (i : Nat) (h : i < l.length) : l.drop i = rd_T36 l (i : Int) :: l.drop (i + 1) := by
  rw [show rd_T36 l (i : Int) = l[i] by simp [rd_T36, h], List.drop_eq_getElem_cons h]
/-- In which slot asker j asks in round r; -1: in none. -/
def slotOf (A : List S36) (s : Int) (h : List Int) (r : Int) (j : Nat) : Int := if rd h (j : Int) < 0 ∧ r < ((rd_T36 A (j : Int)).f0.length : Int) then (rd (rd_T36 A (j : Int)).f0 r) % s else -1
def cntS (A : List S36) (s : Int) (h : List Int) (r : Int) (c : Int) : Nat → Int
  | 0 => 0
  | i + 1 => cntS A s h r c i + (if slotOf A s h r i = c then 1 else 0)
def nxt (A : List S36) (s : Int) (h : List Int) (r : Int) (j : Nat) : Int := if 0 ≤ slotOf A s h r j ∧ cntS A s h r (slotOf A s h r j) A.length = 1 then r else rd h (j : Int)
def rnd (A : List S36) (s : Int) (h : List Int) (r : Int) : List Int := (List.range A.length).map (nxt A s h r)
def heardAt (A : List S36) (s : Int) : Nat → List Int
  | 0 => List.replicate A.length (-1)
  | r + 1 => rnd A s (heardAt A s r) (r : Int)
theorem rnd_length (A : List S36) (s : Int) (h : List Int) (r : Int) : (rnd A s h r).length = A.length := by simp [rnd]
theorem heardAt_length (A : List S36) (s : Int) (r : Nat) : (heardAt A s r).length = A.length := by
  cases r with
  | zero => simp [heardAt]
  | succ r => simp [heardAt, rnd]
theorem rd_rangeMap (f : Nat → Int) (n j : Nat) (h : j < n) : rd ((List.range n).map f) (j : Int) = f j := by simp [rd, h]
theorem rd_rnd (A : List S36) (s : Int) (h : List Int) (r : Int) (j : Nat) (hj : j < A.length) : rd (rnd A s h r) (j : Int) = nxt A s h r j := rd_rangeMap _ _ _ hj
theorem cnt_bd (A : List S36) (s : Int) (h : List Int) (r c : Int) : ∀ i : Nat, 0 ≤ cntS A s h r c i ∧ cntS A s h r c i ≤ i := by
  intro i
  induction i with
  | zero => exact ⟨Int.le_refl _, Int.le_refl _⟩
  | succ i ih => simp only [cntS]; split <;> omega
theorem slot_bd (A : List S36) (s : Int) (h : List Int) (r : Int) (hs : 1 ≤ s) (j : Nat) : slotOf A s h r j = -1 ∨ (0 ≤ slotOf A s h r j ∧ slotOf A s h r j < s) := by
  unfold slotOf
  split
  · exact .inr ⟨Int.emod_nonneg _ (by omega), Int.emod_lt_of_pos _ (by omega)⟩
  · exact .inl rfl
theorem set_range (f : Nat → Int) (n i : Nat) (hi : i < n) (v : Int) : ((List.range n).map f).set i v = (List.range n).map (fun j => if j = i then v else f j) := by
  refine List.ext_getElem (by simp) (fun j h1 h2 => ?_)
  simp only [List.getElem_set, List.getElem_map, List.getElem_range]
  by_cases e : i = j
  · subst e; simp
  · rw [if_neg e, if_neg (fun h => e h.symm)]
theorem map_range_congr {α : Type} (f g : Nat → α) (n : Nat) (h : ∀ j, j < n → f j = g j) : (List.range n).map f = (List.range n).map g := List.map_congr_left (fun j hj => h j (by simpa using hj))
section
variable (A : List S36) (s : Int) (hA : 1 ≤ A.length ∧ A.length ≤ 40) (hs : 1 ≤ s ∧ s ≤ 16) (hok : AskOk A) (hco : ∀ x ∈ A, x.f0.length ≤ 1048576) (h : List Int) (hh : h.length = A.length) (r : Int) (hr : 0 ≤ r ∧ r ≤ 60)
include hA hs hok hco hh hr
/-- What an asker's coin leads to. -/
theorem coin_at (i : Nat) (hi : i < A.length) (c1 : rd h (i : Int) < 0) (c2 : r < ((rd_T36 A (i : Int)).f0.length : Int)) : Int.tmod (rd (rd_T36 A (i : Int)).f0 r) s = slotOf A s h r i ∧ 0 ≤ slotOf A s h r i ∧ slotOf A s h r i < s := by
  have hc := hok _ (rd36_mem (l := A) (i := (i : Int)) (by omega) (by omega)) _ (rd_mem (xs := (rd_T36 A (i : Int)).f0) (i := r) (by omega) c2)
  have e : slotOf A s h r i = (rd (rd_T36 A (i : Int)).f0 r) % s := by unfold slotOf; rw [if_pos ⟨c1, c2⟩]
  rw [e, tmod_nonneg hc.1]
  exact ⟨rfl, Int.emod_nonneg _ (by omega), Int.emod_lt_of_pos _ (by omega)⟩
/-- The reference's second pass. -/
theorem spec_l4 (R : Int) (out : List Int × Bool) (H : Ev (fun k => spec_Contend.l2 k A s R (rnd A s h r) (r + 1)) out) : ∀ (d i : Nat), A.length - i = d → i ≤ A.length →
    Ev (fun k => spec_Contend.l4 k A s R ((List.range A.length).map (fun (j : Nat) => if j < i then nxt A s h r j else rd h (j : Int))) r ((List.range A.length).map (slotOf A s h r)) ((List.range s.toNat).map (fun (c : Nat) => cntS A s h r (c : Int) A.length)) (i : Int)) out := by
  intro d
  induction d with
  | zero =>
    intro i hd hi
    have ew : wrap64 (r + 1) = r + 1 := w64 (by omega) (by omega)
    refine ev_unroll ?_
    simp only [spec_Contend.l4, if_neg (show ¬ (i : Int) < (A.length : Int) by omega), ew]
    rw [map_range_congr (fun (j : Nat) => if j < i then nxt A s h r j else rd h (j : Int)) (nxt A s h r) A.length (fun j hj => if_pos (by omega))]
    exact H
  | succ d ih =>
    intro i hd hi
    have hi2 : i < A.length := by omega
    have p := ih (i + 1) (by omega) (by omega)
    have ew := Aside0.mk (show ((i + 1 : Nat) : Int) = wrap64 ((i : Int) + 1) by rw [w64 (by omega) (by omega)]; omega)
    rw [ew.out] at p
    have n1 : (i : Int) < (A.length : Int) := by omega
    have n2 : (0 : Int) ≤ (i : Int) := by omega
    have n3 : (i : Int) < (((List.range A.length).map (slotOf A s h r)).length : Int) := by simpa using hi2
    have e1 := rd_rangeMap (slotOf A s h r) A.length i hi2
    have hb := slot_bd A s h r hs.1 i
    refine ev_unroll ?_
    simp only [spec_Contend.l4, if_pos n1, if_pos n2, if_pos n3, e1]
    by_cases c1 : slotOf A s h r i ≥ 0
    · have hb2 : slotOf A s h r i < s := by omega
      have n4 : slotOf A s h r i < (((List.range s.toNat).map (fun (c : Nat) => cntS A s h r (c : Int) A.length)).length : Int) := by simp; omega
      have e2 : rd ((List.range s.toNat).map (fun (c : Nat) => cntS A s h r (c : Int) A.length)) (slotOf A s h r i) = cntS A s h r (slotOf A s h r i) A.length := by
        have := rd_rangeMap (fun (c : Nat) => cntS A s h r (c : Int) A.length) s.toNat (slotOf A s h r i).toNat (by omega)
        rw [Int.toNat_of_nonneg c1] at this
        exact this
      simp only [if_pos c1, if_pos (show 0 ≤ slotOf A s h r i from c1), if_pos n4, e2]
      by_cases c2 : cntS A s h r (slotOf A s h r i) A.length = 1
      · have n5 : (i : Int) < (((List.range A.length).map (fun (j : Nat) => if j < i then nxt A s h r j else rd h (j : Int))).length : Int) := by simpa using hi2
        simp only [if_pos c2, if_pos n5, Int.toNat_natCast]
        rw [set_range _ _ _ hi2]
        rw [map_range_congr _ (fun (j : Nat) => if j < i + 1 then nxt A s h r j else rd h (j : Int)) A.length (fun j hj => by
          by_cases e : j = i
          · subst e; rw [if_pos rfl, if_pos (by omega)]; unfold nxt; rw [if_pos ⟨c1, c2⟩]
          · rw [if_neg e]
            by_cases g : j < i
            · rw [if_pos g, if_pos (by omega)]
            · rw [if_neg g, if_neg (by omega)])]
        exact p
      · simp only [if_neg c2]
        rw [map_range_congr _ (fun (j : Nat) => if j < i + 1 then nxt A s h r j else rd h (j : Int)) A.length (fun j hj => by
          by_cases e : j = i
          · subst e; rw [if_neg (by omega), if_pos (by omega)]; unfold nxt; rw [if_neg (fun g => c2 g.2)]
          · by_cases g : j < i
            · rw [if_pos g, if_pos (by omega)]
            · rw [if_neg g, if_neg (by omega)])]
        exact p
    · simp only [if_neg c1]
      rw [map_range_congr _ (fun (j : Nat) => if j < i + 1 then nxt A s h r j else rd h (j : Int)) A.length (fun j hj => by
          by_cases e : j = i
          · subst e; rw [if_neg (by omega), if_pos (by omega)]; unfold nxt; rw [if_neg (fun g => c1 g.1)]
          · by_cases g : j < i
            · rw [if_pos g, if_pos (by omega)]
            · rw [if_neg g, if_neg (by omega)])]
      exact p
theorem spec_l3 (R : Int) (out : List Int × Bool) (H : Ev (fun k => spec_Contend.l2 k A s R (rnd A s h r) (r + 1)) out) : ∀ (d i : Nat), A.length - i = d → i ≤ A.length →
    Ev (fun k => spec_Contend.l3 k A s R h r ((List.range i).map (slotOf A s h r)) ((List.range s.toNat).map (fun (c : Nat) => cntS A s h r (c : Int) i)) (i : Int)) out := by
  intro d
  induction d with
  | zero =>
    intro i hd hi
    have e : i = A.length := by omega
    subst e
    have p := spec_l4 A s hA hs hok hco h hh r hr R out H A.length 0 (by omega) (Nat.zero_le _)
    rw [map_range_congr (fun (j : Nat) => if j < 0 then nxt A s h r j else rd h (j : Int)) (fun (j : Nat) => rd h (j : Int)) A.length (fun j hj => if_neg (by omega))] at p
    have eh : (List.range A.length).map (fun (j : Nat) => rd h (j : Int)) = h := by
      refine List.ext_getElem (by simp [hh]) (fun j h1 h2 => ?_)
      simp [rd, h2]
    rw [eh] at p
    refine ev_unroll ?_
    simp only [spec_Contend.l3, if_neg (show ¬ (A.length : Int) < (A.length : Int) by omega)]
    exact p
  | succ d ih =>
    intro i hd hi
    have hi2 : i < A.length := by omega
    have p := ih (i + 1) (by omega) (by omega)
    have ew := Aside0.mk (show ((i + 1 : Nat) : Int) = wrap64 ((i : Int) + 1) by rw [w64 (by omega) (by omega)]; omega)
    rw [ew.out, List.range_succ, List.map_append, List.map_singleton] at p
    have n1 : (i : Int) < (A.length : Int) := by omega
    have n2 : (0 : Int) ≤ (i : Int) := by omega
    have n3 : (i : Int) < (h.length : Int) := by omega
    have n4 : ((List.range i).map (slotOf A s h r)).length < 17592186044416 := by simp; omega
    refine ev_unroll ?_
    simp only [spec_Contend.l3, if_pos n1, if_pos n2, if_pos n3]
    have none_ : slotOf A s h r i = -1 → (List.range s.toNat).map (fun (c : Nat) => cntS A s h r (c : Int) (i + 1)) = (List.range s.toNat).map (fun (c : Nat) => cntS A s h r (c : Int) i) := fun e => map_range_congr _ _ _ (fun c hc => by simp only [cntS]; rw [e, if_neg (by omega), Int.add_zero])
    by_cases c1 : rd h (i : Int) < 0
    · by_cases c2 : r < ((rd_T36 A (i : Int)).f0.length : Int)
      · obtain ⟨q1, q2, q3⟩ := coin_at A s hA hs hok hco h hh r hr i hi2 c1 c2
        have n5 : slotOf A s h r i < (((List.range s.toNat).map (fun (c : Nat) => cntS A s h r (c : Int) i)).length : Int) := by simp; omega
        have e2 : rd ((List.range s.toNat).map (fun (c : Nat) => cntS A s h r (c : Int) i)) (slotOf A s h r i) = cntS A s h r (slotOf A s h r i) i := by
          have := rd_rangeMap (fun (c : Nat) => cntS A s h r (c : Int) i) s.toNat (slotOf A s h r i).toNat (by omega)
          rw [Int.toNat_of_nonneg q2] at this
          exact this
        have hb := cnt_bd A s h r (slotOf A s h r i) i
        have ew2 := Aside0.mk (show wrap64 (cntS A s h r (slotOf A s h r i) i + 1) = cntS A s h r (slotOf A s h r i) i + 1 from w64 (by omega) (by omega))
        simp only [if_pos c1, if_pos c2, if_pos hr.1, if_neg (show ¬ s = 0 by omega), q1, if_pos q2, if_pos n5, if_pos n4, e2, ew2.out]
        rw [set_range _ _ _ (by omega)]
        rw [map_range_congr _ (fun (c : Nat) => cntS A s h r (c : Int) (i + 1)) s.toNat (fun c hc => by
          simp only [cntS]
          by_cases e : c = (slotOf A s h r i).toNat
          · subst e; rw [if_pos rfl, Int.toNat_of_nonneg q2, if_pos rfl]
          · rw [if_neg e, if_neg (fun g => e (by omega)), Int.add_zero])]
        exact p
      · have e : slotOf A s h r i = -1 := by unfold slotOf; rw [if_neg (fun g => c2 g.2)]
        rw [none_ e, e] at p
        simp only [if_pos c1, if_neg c2, if_pos n4]
        exact p
    · have e : slotOf A s h r i = -1 := by unfold slotOf; rw [if_neg (fun g => c1 g.1)]
      rw [none_ e, e] at p
      simp only [if_neg c1, if_pos n4]
      exact p
/-- Who is in a slot, of the first i. -/
def rowS (i : Nat) (c : Int) : List Int := ((List.range i).filter (fun j => slotOf A s h r j == c)).map (fun (j : Nat) => (j : Int))
omit hA hs hok hco hh hr in
theorem row_succ (i : Nat) (c : Int) : rowS A s h r (i + 1) c = rowS A s h r i c ++ (if slotOf A s h r i = c then [(i : Int)] else []) := by
  unfold rowS
  rw [List.range_succ, List.filter_append, List.map_append]
  congr 1
  by_cases e : slotOf A s h r i = c
  · simp [e]
  · simp [e]
omit hA hs hok hco hh hr in
theorem row_length (c : Int) : ∀ i : Nat, ((rowS A s h r i c).length : Int) = cntS A s h r c i := by
  intro i
  induction i with
  | zero => rfl
  | succ i ih =>
    rw [row_succ, List.length_append]
    simp only [cntS]
    split <;> simp <;> omega
omit hA hs hok hco hh hr in
theorem row_mem (i : Nat) (c x : Int) : x ∈ rowS A s h r i c ↔ ∃ j : Nat, j < i ∧ slotOf A s h r j = c ∧ x = (j : Int) := by
  unfold rowS
  simp only [List.mem_map, List.mem_filter, List.mem_range, beq_iff_eq]
  constructor
  · rintro ⟨j, ⟨h1, h2⟩, rfl⟩; exact ⟨j, h1, h2, rfl⟩
  · rintro ⟨j, h1, h2, rfl⟩; exact ⟨j, ⟨h1, h2⟩, rfl⟩
omit hA hs hok hco hh hr in
theorem rdL_rows (i c : Nat) (hc : c < 16) : rd_L1 ((List.range 16).map (fun (c : Nat) => rowS A s h r i (c : Int))) (c : Int) = rowS A s h r i (c : Int) := by simp [rd_L1, hc]
/-- Heard in the slots ahead of c. -/
def hTo (c : Int) (j : Nat) : Int := if (0 ≤ slotOf A s h r j ∧ slotOf A s h r j < c) ∧ cntS A s h r (slotOf A s h r j) A.length = 1 then r else rd h (j : Int)
theorem impl_l4 (R : Int) (out : List Int × Bool) (H : Ev (fun k => impl_Contend.l2 k A s (rnd A s h r) R (r + 1)) out) : ∀ (d c : Nat), 16 - c = d → c ≤ 16 →
    Ev (fun k => impl_Contend.l4 k A s ((List.range A.length).map (hTo A s h r (c : Int))) r R r ((List.range 16).map (fun (c : Nat) => rowS A s h r A.length (c : Int))) (c : Int)) out := by
  intro d
  induction d with
  | zero =>
    intro c hd hc
    have ec : c = 16 := by omega
    subst ec
    have ew : wrap64 (r + 1) = r + 1 := w64 (by omega) (by omega)
    refine ev_unroll ?_
    simp only [impl_Contend.l4, if_neg (show ¬ ((16 : Nat) : Int) < 16 by omega), ew]
    rw [map_range_congr (hTo A s h r ((16 : Nat) : Int)) (nxt A s h r) A.length (fun j hj => by
      have hb := slot_bd A s h r hs.1 j
      unfold hTo nxt
      by_cases g : 0 ≤ slotOf A s h r j ∧ cntS A s h r (slotOf A s h r j) A.length = 1
      · rw [if_pos g, if_pos ⟨⟨g.1, by omega⟩, g.2⟩]
      · rw [if_neg g, if_neg (fun q => g ⟨q.1.1, q.2⟩)])]
    exact H
  | succ d ih =>
    intro c hd hc
    have hc2 : c < 16 := by omega
    have p := ih (c + 1) (by omega) (by omega)
    have ew := Aside0.mk (show ((c + 1 : Nat) : Int) = wrap64 ((c : Int) + 1) by rw [w64 (by omega) (by omega)]; omega)
    have n1 : (c : Int) < 16 := by omega
    have n2 : (0 : Int) ≤ (c : Int) := by omega
    have n3 : (c : Int) < (((List.range 16).map (fun (c : Nat) => rowS A s h r A.length (c : Int))).length : Int) := by simp; omega
    have er := rdL_rows A s h r A.length c hc2
    have el := row_length A s h r (c : Int) A.length
    refine ev_unroll ?_
    simp only [impl_Contend.l4, if_pos n1, if_pos n2, if_pos n3, er]
    by_cases c1 : ((rowS A s h r A.length (c : Int)).length : Int) = 1
    · obtain ⟨x, hx⟩ : ∃ x, rowS A s h r A.length (c : Int) = [x] := List.length_eq_one_iff.mp (by omega)
      have hm : ∀ y, y ∈ [x] ↔ ∃ j : Nat, j < A.length ∧ slotOf A s h r j = (c : Int) ∧ y = (j : Int) := fun y => by rw [← hx]; exact row_mem A s h r A.length (c : Int) y
      obtain ⟨j0, hj0, hsl, rfl⟩ := (hm x).mp (by simp)
      have uniq : ∀ j : Nat, j < A.length → slotOf A s h r j = (c : Int) → j = j0 := fun j hj hjs => by
        have := (hm (j : Int)).mpr ⟨j, hj, hjs, rfl⟩
        simp only [List.mem_singleton] at this
        omega
      have c1' : cntS A s h r (c : Int) A.length = 1 := by rw [← el]; exact c1
      have e0 : rd ([(j0 : Int)] : List Int) 0 = (j0 : Int) := rfl
      have n4 : (j0 : Int) < (((List.range A.length).map (hTo A s h r (c : Int))).length : Int) := by simpa using hj0
      simp only [hx, List.length_singleton, show (((1 : Nat) : Int) = 1) from rfl, ↓reduceIte, if_pos (show (0 : Int) < ((1 : Nat) : Int) by decide), e0, if_pos (show (0 : Int) ≤ (j0 : Int) by omega), if_pos n4, Int.toNat_natCast]
      rw [ew.out] at p
      rw [set_range _ _ _ hj0]
      rw [map_range_congr _ (hTo A s h r (wrap64 ((c : Int) + 1))) A.length (fun j hj => by
        rw [← ew.out]
        by_cases e : j = j0
        · subst e
          rw [if_pos rfl]
          unfold hTo
          rw [hsl, if_pos ⟨⟨by omega, by omega⟩, c1'⟩]
        · rw [if_neg e]
          have hne : slotOf A s h r j ≠ (c : Int) := fun g => e (uniq j hj g)
          unfold hTo
          by_cases g : (0 ≤ slotOf A s h r j ∧ slotOf A s h r j < (c : Int)) ∧ cntS A s h r (slotOf A s h r j) A.length = 1
          · rw [if_pos g, if_pos ⟨⟨g.1.1, by omega⟩, g.2⟩]
          · rw [if_neg g, if_neg (fun q => g ⟨⟨q.1.1, by omega⟩, q.2⟩)])]
      exact p
    · simp only [if_neg c1]
      rw [ew.out] at p
      rw [map_range_congr _ (hTo A s h r (wrap64 ((c : Int) + 1))) A.length (fun j hj => by
        rw [← ew.out]
        unfold hTo
        by_cases g : (0 ≤ slotOf A s h r j ∧ slotOf A s h r j < (c : Int)) ∧ cntS A s h r (slotOf A s h r j) A.length = 1
        · rw [if_pos g, if_pos ⟨⟨g.1.1, by omega⟩, g.2⟩]
        · rw [if_neg g, if_neg (fun q => by
            by_cases e : slotOf A s h r j = (c : Int)
            · exact c1 (by rw [el, ← e]; exact q.2)
            · exact g ⟨⟨q.1.1, by omega⟩, q.2⟩)])]
      exact p
theorem impl_l3 (R : Int) (out : List Int × Bool) (H : Ev (fun k => impl_Contend.l2 k A s (rnd A s h r) R (r + 1)) out) : ∀ (d i : Nat), A.length - i = d → i ≤ A.length →
    Ev (fun k => impl_Contend.l3 k A s h r ((List.range 16).map (fun (c : Nat) => rowS A s h r i (c : Int))) R r A (A.length : Int) (i : Int)) out := by
  intro d
  induction d with
  | zero =>
    intro i hd hi
    have e : i = A.length := by omega
    subst e
    have p := impl_l4 A s hA hs hok hco h hh r hr R out H 16 0 (by omega) (Nat.zero_le _)
    rw [map_range_congr (hTo A s h r ((0 : Nat) : Int)) (fun (j : Nat) => rd h (j : Int)) A.length (fun j hj => by unfold hTo; rw [if_neg (fun q => by have := q.1.2; have := q.1.1; omega)])] at p
    have eh : (List.range A.length).map (fun (j : Nat) => rd h (j : Int)) = h := by
      refine List.ext_getElem (by simp [hh]) (fun j h1 h2 => ?_)
      simp [rd, h2]
    rw [eh] at p
    refine ev_unroll ?_
    simp only [impl_Contend.l3, if_neg (show ¬ (A.length : Int) < (A.length : Int) by omega)]
    exact p
  | succ d ih =>
    intro i hd hi
    have hi2 : i < A.length := by omega
    have p := ih (i + 1) (by omega) (by omega)
    have ew := Aside0.mk (show ((i + 1 : Nat) : Int) = wrap64 ((i : Int) + 1) by rw [w64 (by omega) (by omega)]; omega)
    rw [ew.out] at p
    have n1 : (i : Int) < (A.length : Int) := by omega
    have n2 : (0 : Int) ≤ (i : Int) := by omega
    have n3 : (i : Int) < (h.length : Int) := by omega
    refine ev_unroll ?_
    simp only [impl_Contend.l3, if_pos n1, if_pos n2, if_pos n3]
    have none_ : slotOf A s h r i = -1 → (List.range 16).map (fun (c : Nat) => rowS A s h r (i + 1) (c : Int)) = (List.range 16).map (fun (c : Nat) => rowS A s h r i (c : Int)) := fun e => map_range_congr _ _ _ (fun c hc => by rw [row_succ, e, if_neg (by omega), List.append_nil])
    by_cases c1 : rd h (i : Int) < 0
    · by_cases c2 : r < ((rd_T36 A (i : Int)).f0.length : Int)
      · obtain ⟨q1, q2, q3⟩ := coin_at A s hA hs hok hco h hh r hr i hi2 c1 c2
        have n5 : slotOf A s h r i < (((List.range 16).map (fun (c : Nat) => rowS A s h r i (c : Int))).length : Int) := by simp; omega
        have er := rdL_rows A s h r i (slotOf A s h r i).toNat (by omega)
        rw [Int.toNat_of_nonneg q2] at er
        have el := row_length A s h r (slotOf A s h r i) i
        have hb := cnt_bd A s h r (slotOf A s h r i) i
        have n6 : (rowS A s h r i (slotOf A s h r i)).length < 17592186044416 := by omega
        simp only [if_pos c1, if_pos c2, if_pos hr.1, if_neg (show ¬ s = 0 by omega), q1, if_pos q2, if_pos n5, er, if_pos n6]
        have es : ((List.range 16).map (fun (c : Nat) => rowS A s h r i (c : Int))).set (slotOf A s h r i).toNat (rowS A s h r i (slotOf A s h r i) ++ [(i : Int)]) = (List.range 16).map (fun (c : Nat) => rowS A s h r (i + 1) (c : Int)) := by
          refine List.ext_getElem (by simp) (fun j h1 h2 => ?_)
          simp only [List.getElem_set, List.getElem_map, List.getElem_range]
          rw [row_succ]
          by_cases e : (slotOf A s h r i).toNat = j
          · subst e; rw [if_pos rfl, Int.toNat_of_nonneg q2, if_pos rfl]
          · rw [if_neg e, if_neg (fun g => e (by omega)), List.append_nil]
        rw [es]
        exact p
      · have e : slotOf A s h r i = -1 := by unfold slotOf; rw [if_neg (fun g => c2 g.2)]
        rw [none_ e] at p
        simp only [if_pos c1, if_neg c2]
        exact p
    · have e : slotOf A s h r i = -1 := by unfold slotOf; rw [if_neg (fun g => c1 g.1)]
      rw [none_ e] at p
      simp only [if_neg c1]
      exact p
end
section
variable (A : List S36) (s : Int) (hA : 1 ≤ A.length ∧ A.length ≤ 40) (hs : 1 ≤ s ∧ s ≤ 16) (hok : AskOk A) (hco : ∀ x ∈ A, x.f0.length ≤ 1048576)
include hA hs hok hco
theorem rounds_both (R : Nat) (hR : R ≤ 60) : ∀ (d r : Nat), R - r = d → r ≤ R → Ev (fun k => spec_Contend.l2 k A s (R : Int) (heardAt A s r) (r : Int)) (heardAt A s R, true) ∧ Ev (fun k => impl_Contend.l2 k A s (heardAt A s r) (R : Int) (r : Int)) (heardAt A s R, true) := by
  intro d
  induction d with
  | zero =>
    intro r hd hr
    have e : r = R := by omega
    subst e
    refine ⟨ev_unroll ?_, ev_unroll ?_⟩
    · simp only [spec_Contend.l2, if_neg (show ¬ (r : Int) < (r : Int) by omega)]
      exact Ev.now _
    · simp only [impl_Contend.l2, if_neg (show ¬ (r : Int) < (r : Int) by omega)]
      exact Ev.now _
  | succ d ih =>
    intro r hd hr
    obtain ⟨p, q⟩ := ih (r + 1) (by omega) (by omega)
    have e : ((r + 1 : Nat) : Int) = (r : Int) + 1 := by omega
    rw [e] at p q
    have hl := heardAt_length A s r
    have p2 := spec_l3 A s hA hs hok hco (heardAt A s r) hl (r : Int) (by omega) (R : Int) _ p A.length 0 (by omega) (Nat.zero_le _)
    have q2 := impl_l3 A s hA hs hok hco (heardAt A s r) hl (r : Int) (by omega) (R : Int) _ q A.length 0 (by omega) (Nat.zero_le _)
    have z1 : (List.range s.toNat).map (fun (c : Nat) => cntS A s (heardAt A s r) (r : Int) (c : Int) 0) = List.replicate s.toNat 0 := by
      refine List.ext_getElem (by simp) (fun j h1 h2 => ?_)
      simp [cntS]
    have z2 : (List.range 16).map (fun (c : Nat) => rowS A s (heardAt A s r) (r : Int) 0 (c : Int)) = List.replicate 16 [] := by
      simp only [rowS, List.range_zero, List.filter_nil, List.map_nil]
      rfl
    rw [z1] at p2
    rw [z2] at q2
    refine ⟨ev_unroll ?_, ev_unroll ?_⟩
    · simp only [spec_Contend.l2, if_pos (show (r : Int) < (R : Int) by omega), if_pos (show 0 ≤ s by omega), if_pos (show s.toNat ≤ 35184372088832 by omega)]
      simpa using p2
    · simp only [impl_Contend.l2, if_pos (show (r : Int) < (R : Int) by omega), if_pos (show 16 ≤ 11728124029610 by decide)]
      exact q2
end
/-- The tests of the coins. -/
theorem coins_both (A : List S36) (s R : Int) (hA : A.length ≤ 40) (hco : ∀ x ∈ A, x.f0.length ≤ 1048576) (o1 o2 : List Int × Bool) :
    ∀ (d i : Nat), A.length - i = d → i ≤ A.length →
    ((∀ x ∈ A.drop i, CoinsOk x.f0) → Ev (fun k => spec_Contend.l2 k A s R (List.replicate A.length (-1)) 0) o1 → Ev (fun k => impl_Contend.l2 k A s (List.replicate A.length (-1)) R 0) o2 → Ev (fun k => spec_Contend.l0 k A s R (List.replicate i (-1)) (i : Int)) o1 ∧ Ev (fun k => impl_Contend.l0 k A s R A (A.length : Int) (i : Int)) o2) ∧
    ((¬ ∀ x ∈ A.drop i, CoinsOk x.f0) → Ev (fun k => spec_Contend.l0 k A s R (List.replicate i (-1)) (i : Int)) ([], false) ∧ Ev (fun k => impl_Contend.l0 k A s R A (A.length : Int) (i : Int)) ([], false)) := by
  intro d
  induction d with
  | zero =>
    intro i hd hi
    have e : i = A.length := by omega
    subst e
    rw [List.drop_length]
    refine ⟨fun _ H1 H2 => ⟨ev_unroll ?_, ev_unroll ?_⟩, fun h => absurd (fun x hx => by cases hx) h⟩
    · simp only [spec_Contend.l0, if_neg (show ¬ (A.length : Int) < (A.length : Int) by omega)]
      exact H1
    · simp only [impl_Contend.l0, if_neg (show ¬ (A.length : Int) < (A.length : Int) by omega)]
      refine Ev.bind (a := List.replicate A.length (-1)) ?_ H2
      simp only [slices_Repeat_int_int.f, List.length_singleton, ↓reduceIte, if_pos (show (0 : Int) ≤ (A.length : Int) by omega), if_pos (show (A.length : Int) ≤ 1048576 by omega), Int.toNat_natCast]
      exact Ev.now _
  | succ d ih =>
    intro i hd hi
    have hi2 : i < A.length := by omega
    obtain ⟨g, b⟩ := ih (i + 1) (by omega) (by omega)
    have ew := Aside0.mk (show ((i + 1 : Nat) : Int) = wrap64 ((i : Int) + 1) by rw [w64 (by omega) (by omega)]; omega)
    rw [drop36 A i hi2]
    have n1 : (i : Int) < (A.length : Int) := by omega
    have n2 : (0 : Int) ≤ (i : Int) := by omega
    have hlen := hco _ (rd36_mem (l := A) n2 n1)
    have n3 : (List.replicate i (-1 : Int)).length < 17592186044416 := by rw [List.length_replicate]; omega
    -- one asker's coins
    have inner : ∀ (q1 q2 : List Int × Bool) (e m : Nat), (rd_T36 A (i : Int)).f0.length - m = e → m ≤ (rd_T36 A (i : Int)).f0.length →
        ((∀ c ∈ (rd_T36 A (i : Int)).f0.drop m, 0 ≤ c ∧ c ≤ 1000) → Ev (fun k => spec_Contend.l0 k A s R (List.replicate (i + 1) (-1)) ((i + 1 : Nat) : Int)) q1 → Ev (fun k => impl_Contend.l0 k A s R A (A.length : Int) ((i + 1 : Nat) : Int)) q2 → Ev (fun k => spec_Contend.l1 k A s R (List.replicate i (-1)) (i : Int) (m : Int)) q1 ∧ Ev (fun k => impl_Contend.l1 k A s R A (A.length : Int) (i : Int) (rd_T36 A (i : Int)).f0 ((rd_T36 A (i : Int)).f0.length : Int) (m : Int)) q2) ∧
        ((¬ ∀ c ∈ (rd_T36 A (i : Int)).f0.drop m, 0 ≤ c ∧ c ≤ 1000) → Ev (fun k => spec_Contend.l1 k A s R (List.replicate i (-1)) (i : Int) (m : Int)) ([], false) ∧ Ev (fun k => impl_Contend.l1 k A s R A (A.length : Int) (i : Int) (rd_T36 A (i : Int)).f0 ((rd_T36 A (i : Int)).f0.length : Int) (m : Int)) ([], false)) := by
      intro q1 q2 e
      induction e with
      | zero =>
        intro m he hm
        have em : m = (rd_T36 A (i : Int)).f0.length := by omega
        subst em
        rw [List.drop_length]
        refine ⟨fun _ G1 G2 => by
          rw [ew.out] at G1 G2
          rw [List.replicate_succ'] at G1
          refine ⟨ev_unroll ?_, ev_unroll ?_⟩
          · simp only [spec_Contend.l1, if_pos n1, if_pos n2, if_neg (show ¬ ((rd_T36 A (i : Int)).f0.length : Int) < ((rd_T36 A (i : Int)).f0.length : Int) by omega), if_pos n3]
            exact G1
          · simp only [impl_Contend.l1, if_neg (show ¬ ((rd_T36 A (i : Int)).f0.length : Int) < ((rd_T36 A (i : Int)).f0.length : Int) by omega)]
            exact G2, fun h => absurd (fun x hx => by cases hx) h⟩
      | succ e ihe =>
        intro m he hm
        have hm2 : m < (rd_T36 A (i : Int)).f0.length := by omega
        obtain ⟨g2, b2⟩ := ihe (m + 1) (by omega) (by omega)
        have ew2 := Aside0.mk (show ((m + 1 : Nat) : Int) = wrap64 ((m : Int) + 1) by rw [w64 (by omega) (by omega)]; omega)
        rw [ew2.out] at g2 b2
        rw [drop_rd hm2]
        have m1 : (m : Int) < ((rd_T36 A (i : Int)).f0.length : Int) := by omega
        have m2 : (0 : Int) ≤ (m : Int) := by omega
        by_cases cc : 0 ≤ rd (rd_T36 A (i : Int)).f0 (m : Int) ∧ rd (rd_T36 A (i : Int)).f0 (m : Int) ≤ 1000
        · have step : ∀ o, (Ev (fun k => spec_Contend.l1 k A s R (List.replicate i (-1)) (i : Int) (wrap64 ((m : Int) + 1))) o → Ev (fun k => spec_Contend.l1 k A s R (List.replicate i (-1)) (i : Int) (m : Int)) o) ∧ (Ev (fun k => impl_Contend.l1 k A s R A (A.length : Int) (i : Int) (rd_T36 A (i : Int)).f0 ((rd_T36 A (i : Int)).f0.length : Int) (wrap64 ((m : Int) + 1))) o → Ev (fun k => impl_Contend.l1 k A s R A (A.length : Int) (i : Int) (rd_T36 A (i : Int)).f0 ((rd_T36 A (i : Int)).f0.length : Int) (m : Int)) o) := fun o => ⟨fun h => by
              refine ev_unroll ?_
              simp only [spec_Contend.l1, if_pos n1, if_pos n2, if_pos m1, if_pos m2, l1In_t cc.1 cc.2, Option.bind_some, ↓reduceIte]
              exact h, fun h => by
              refine ev_unroll ?_
              simp only [impl_Contend.l1, if_pos m1, if_pos m2, in_t cc.1 cc.2, Option.bind_some, ↓reduceIte]
              exact h⟩
          refine ⟨fun h G1 G2 => ?_, fun h => ?_⟩
          · obtain ⟨a, b'⟩ := g2 (fun c hc => h c (List.mem_cons_of_mem _ hc)) G1 G2
            exact ⟨(step _).1 a, (step _).2 b'⟩
          · obtain ⟨a, b'⟩ := b2 (fun g => h (fun c hc => by
              rcases List.mem_cons.mp hc with rfl | hc
              · exact cc
              · exact g c hc))
            exact ⟨(step _).1 a, (step _).2 b'⟩
        · refine ⟨fun h _ _ => absurd (h _ (List.mem_cons_self ..)) cc, fun _ => ⟨ev_unroll ?_, ev_unroll ?_⟩⟩
          · simp only [spec_Contend.l1, if_pos n1, if_pos n2, if_pos m1, if_pos m2, l1In_f cc, Option.bind_some, Bool.false_eq_true, ↓reduceIte]
            exact Ev.now _
          · simp only [impl_Contend.l1, if_pos m1, if_pos m2, in_f cc, Option.bind_some, Bool.false_eq_true, ↓reduceIte]
            exact Ev.now _
    have step : ∀ o, (Ev (fun k => spec_Contend.l1 k A s R (List.replicate i (-1)) (i : Int) 0) o → Ev (fun k => spec_Contend.l0 k A s R (List.replicate i (-1)) (i : Int)) o) ∧ (Ev (fun k => impl_Contend.l1 k A s R A (A.length : Int) (i : Int) (rd_T36 A (i : Int)).f0 ((rd_T36 A (i : Int)).f0.length : Int) 0) o → Ev (fun k => impl_Contend.l0 k A s R A (A.length : Int) (i : Int)) o) := fun o => ⟨fun h => by
        refine ev_unroll ?_
        simp only [spec_Contend.l0, if_pos n1]
        exact h, fun h => by
        refine ev_unroll ?_
        simp only [impl_Contend.l0, if_pos n1, if_pos n2]
        exact h⟩
    refine ⟨fun h H1 H2 => ?_, fun h => ?_⟩
    · obtain ⟨a, b'⟩ := g (fun x hx => h x (List.mem_cons_of_mem _ hx)) H1 H2
      obtain ⟨z1, z2⟩ := (inner _ _ _ 0 rfl (Nat.zero_le _)).1 (h _ (List.mem_cons_self ..)) a b'
      exact ⟨(step _).1 z1, (step _).2 z2⟩
    · by_cases c1 : CoinsOk (rd_T36 A (i : Int)).f0
      · obtain ⟨a, b'⟩ := b (fun g2 => h (fun x hx => by
          rcases List.mem_cons.mp hx with rfl | hx
          · exact c1
          · exact g2 x hx))
        obtain ⟨z1, z2⟩ := (inner _ _ _ 0 rfl (Nat.zero_le _)).1 c1 a b'
        exact ⟨(step _).1 z1, (step _).2 z2⟩
      · obtain ⟨z1, z2⟩ := (inner ([], false) ([], false) _ 0 rfl (Nat.zero_le _)).2 c1
        exact ⟨(step _).1 z1, (step _).2 z2⟩
open Classical in
/-- What Contend tells. -/
noncomputable def contR (A : List S36) (s R : Int) : List Int × Bool := if (1 ≤ (A.length : Int) ∧ (A.length : Int) ≤ 40) ∧ (1 ≤ s ∧ s ≤ 16) ∧ (0 ≤ R ∧ R ≤ 60) ∧ AskOk A then (heardAt A s R.toNat, true) else ([], false)
theorem cont_both (A : List S36) (s R : Int) (hco : ∀ x ∈ A, x.f0.length ≤ 1048576) : Ev (fun k => spec_Contend.f k A s R) (contR A s R) ∧ Ev (fun k => impl_Contend.f k A s R) (contR A s R) := by
  by_cases h1 : 1 ≤ (A.length : Int) ∧ (A.length : Int) ≤ 40
  · by_cases h2 : 1 ≤ s ∧ s ≤ 16
    · by_cases h3 : 0 ≤ R ∧ R ≤ 60
      · have run : ∀ o, Ev (fun k => spec_Contend.l0 k A s R [] 0) o ∧ Ev (fun k => impl_Contend.l0 k A s R A (A.length : Int) 0) o → Ev (fun k => spec_Contend.f k A s R) o ∧ Ev (fun k => impl_Contend.f k A s R) o := by
          rintro o ⟨p, q⟩
          constructor
          · simp only [spec_Contend.f, l1In_t h1.1 h1.2, l1In_t h2.1 h2.2, l1In_t h3.1 h3.2, Option.bind_some, ↓reduceIte, Bool.not_true]
            refine ev_unroll ?_
            simp only [spec_Contend.j0, Bool.false_eq_true, ↓reduceIte]
            exact p
          · simp only [impl_Contend.f, in_t h1.1 h1.2, in_t h2.1 h2.2, in_t h3.1 h3.2, Option.bind_some, ↓reduceIte, Bool.not_true]
            refine ev_unroll ?_
            simp only [impl_Contend.j0, Bool.false_eq_true, ↓reduceIte]
            exact q
        by_cases h4 : AskOk A
        · have hR : ((R.toNat : Nat) : Int) = R := Int.toNat_of_nonneg h3.1
          obtain ⟨p, q⟩ := rounds_both A s (by omega) h2 h4 hco R.toNat (by omega) R.toNat 0 (by omega) (Nat.zero_le _)
          rw [hR] at p q
          have e : contR A s R = (heardAt A s R.toNat, true) := if_pos ⟨h1, h2, h3, h4⟩
          rw [e]
          exact run _ ((coins_both A s R (by omega) hco _ _ A.length 0 (by omega) (Nat.zero_le _)).1 h4 p q)
        · have e : contR A s R = ([], false) := if_neg (fun h => h4 h.2.2.2)
          rw [e]
          exact run _ ((coins_both A s R (by omega) hco ([], false) ([], false) A.length 0 (by omega) (Nat.zero_le _)).2 h4)
      · have e : contR A s R = ([], false) := if_neg (fun h => h3 h.2.2.1)
        rw [e]
        constructor
        · simp only [spec_Contend.f, l1In_t h1.1 h1.2, l1In_t h2.1 h2.2, l1In_f h3, Option.bind_some, ↓reduceIte, Bool.not_false]
          refine ev_unroll ?_
          simp only [spec_Contend.j0, ↓reduceIte]
          exact Ev.now _
        · simp only [impl_Contend.f, in_t h1.1 h1.2, in_t h2.1 h2.2, in_f h3, Option.bind_some, ↓reduceIte, Bool.not_false]
          refine ev_unroll ?_
          simp only [impl_Contend.j0, ↓reduceIte]
          exact Ev.now _
    · have e : contR A s R = ([], false) := if_neg (fun h => h2 h.2.1)
      rw [e]
      constructor
      · simp only [spec_Contend.f, l1In_t h1.1 h1.2, l1In_f h2, Option.bind_some, Bool.false_eq_true, ↓reduceIte]
        refine ev_unroll ?_
        simp only [spec_Contend.j0, ↓reduceIte]
        exact Ev.now _
      · simp only [impl_Contend.f, in_t h1.1 h1.2, in_f h2, Option.bind_some, Bool.false_eq_true, ↓reduceIte]
        refine ev_unroll ?_
        simp only [impl_Contend.j0, ↓reduceIte]
        exact Ev.now _
  · have e : contR A s R = ([], false) := if_neg (fun h => h1 h.1)
    rw [e]
    constructor
    · simp only [spec_Contend.f, l1In_f h1, Option.bind_some, Bool.false_eq_true, ↓reduceIte]
      refine ev_unroll ?_
      simp only [spec_Contend.j0, ↓reduceIte]
      exact Ev.now _
    · simp only [impl_Contend.f, in_f h1, Option.bind_some, Bool.false_eq_true, ↓reduceIte]
      refine ev_unroll ?_
      simp only [impl_Contend.j0, ↓reduceIte]
      exact Ev.now _
theorem both (A : List S36) (s R : Int) (hr : ∀ x ∈ A, x.f0.length ≤ 1048576) : ∃ r : List Int × Bool, r.1.length ≤ 1048576 ∧ Ev (fun k => spec_Contend.f k A s R) r ∧ Ev (fun k => impl_Contend.f k A s R) r := by
  obtain ⟨p, q⟩ := cont_both A s R hr
  refine ⟨_, ?_, p, q⟩
  unfold contR
  split
  · rename_i h
    simp only [heardAt_length]
    omega
  · simp
def laws_FnExactContend.Pure : Prop := ∀ (l0 : List S53) (a1 a2 : Int), (l0.length ≤ maxLen ∧ ∀ x ∈ l0, x.f0.length ≤ maxLen) → (Lit.int .i64 a1).wf = true → (Lit.int .i64 a2).wf = true → ∃ k, laws_FnExactContend.f k l0 a1 a2 = some true
theorem FnExactContend : laws_FnExactContend.Pure := by
  intro l0 a1 a2 hm _ _
  refine Ev.rounds (g := fun k => laws_FnExactContend.f k l0 a1 a2) ?_
  obtain ⟨v, hv, hv2⟩ := szAskerS_ev l0 hm.1 hm.2
  simp only [laws_FnExactContend.f]
  refine Ev.bind hv ?_
  by_cases hb : v < 0
  · simp only [if_pos hb]
    exact Ev.now _
  simp only [if_neg hb]
  have hs := hv2 (by omega)
  have hn := ss_len l0 hs
  have htn := tot_nonneg l0 l0.length
  have ht := toAskerS_ev l0 hs
  obtain ⟨⟨l, b⟩, hl, hsp, hi⟩ := both (toA l0) a1 a2 (ss_rows l0 hs)
  simp only at hl
  refine Ev.bind ht (Ev.bind hsp (Ev.bind ht (Ev.bind hi (Ev.bind (eqIntS_ev l hl) ?_))))
  simp only [↓reduceIte, bne_self_eq_false]
  refine ev_unroll ?_
  simp only [laws_FnExactContend.j0, Bool.false_eq_true, ↓reduceIte]
  refine Ev.bind ht (Ev.bind (eqAskerS_ev l0 hs) ?_)
  simp only [↓reduceIte]
  refine Ev.bind (markAskerS_ev l0 hs) ?_
  simp (disch := omega) only [↓if_neg]
  refine Ev.bind (eqIntS_ev l hl) ?_
  simp only [↓reduceIte, bne_self_eq_false]
  refine ev_unroll ?_
  simp only [laws_FnExactContend.j1, Bool.false_eq_true, ↓reduceIte]
  refine Ev.bind (markIntS_ev l 1 (by omega) (by omega) hl) (Ev.bind (heldIntS_ev l.length 1 (by omega) (by omega) hl) ?_)
  simp (disch := omega) only [↓if_neg, ↓reduceIte]
  refine Ev.bind ht (Ev.bind hi (Ev.bind (eqIntS_ev l hl) ?_))
  simp only [↓reduceIte, bne_self_eq_false]
  refine ev_unroll ?_
  simp only [laws_FnExactContend.j2, Bool.false_eq_true, ↓reduceIte]
  refine Ev.bind (heldIntS_ev l.length 1 (by omega) (by omega) hl) ?_
  simp (disch := omega) only [↓if_neg, ↓reduceIte]
  exact Ev.now _

end Go.Proofs.Ytheinelpeapleaa.Pure
