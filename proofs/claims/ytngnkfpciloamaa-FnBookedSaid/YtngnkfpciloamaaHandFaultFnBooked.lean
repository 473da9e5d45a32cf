/- The parts of the book that the print does not take: what they answer, and that the code comes to it. -/
import Derived.Test.YtngnkfpciloamaaMFnBookedx7
import Derived.Test.YtngnkfpciloamaaMFnBookedx6
import Derived.Outline
import Derived.Lib.SliceRun
import Derived.Laws.CopyOwn
import Derived.Deep.RegionLaw
import Derived.RegionTactic
import Derived.ChangeAlike
import Derived.BigRegion
import Derived.StillTailTactics
import Derived.StillTactics
namespace Go.Proofs.Ytngnkfpciloamaa.MFnBooked
open Go.Proofs.Ytngnkfpciloamaa
open Go Go.RowKit Go.Proofs.YtngnkfpciloamaaW.PrintWords Go.Proofs.YtngnkfpciloamaaW.PrintLast Go.Proofs.YtngnkfpciloamaaW.PrintMore Go.Proofs.Ytngnkfpciloamaa.Mine
attribute [local go_sem] max2_int min2_int max_two min_two max_three min_three max_four min_four
set_option linter.unusedVariables false
set_option linter.unusedSimpArgs false
def tolA (is ought : List Int) (kind : Int) : Nat → List S69
 | 0 => []
 | n + 1 => tolA is ought kind n ++ (if 0 ≤ rd ought (n : Int) ∧ rd is (n : Int) ≠ rd ought (n : Int) then [⟨kind, (n : Int)⟩] else [])
def tolB (is ought : List Int) (kind : Int) : Nat → List S69
 | 0 => []
 | n + 1 => tolB is ought kind n ++ (if rd ought (n : Int) < 0 ∧ 0 ≤ rd is (n : Int) then [⟨kind, (n : Int)⟩] else [])
theorem tolA_len (is ought : List Int) (kind : Int) : ∀ n, (tolA is ought kind n).length ≤ n := by
 intro n
 induction n with
 | zero => exact Nat.le_refl _
 | succ n ih => rw [tolA, List.length_append]; split <;> simp <;> omega
theorem tolB_len (is ought : List Int) (kind : Int) : ∀ n, (tolB is ought kind n).length ≤ n := by
 intro n
 induction n with
 | zero => exact Nat.le_refl _
 | succ n ih => rw [tolB, List.length_append]; split <;> simp <;> omega
structure TInv (w0 w : World) (o : Nat) (v0 v : Value) (ys : List S69) (W : World) : Prop where
 box : W.heap[o]? = some (.cells #[v] 38 (0, 0))
 row : Kd.R k69 69 W w0.heap.size (fun _ => True) v ys
 bel : Below w0.heap.size w0 W
 keep : KeepBut w W o v0.ownBlock
 at_ : v.ownBlock = v0.ownBlock ∨ ∃ b, v.ownBlock = some b ∧ w.heap.size ≤ b
theorem TInv.ne {w0 w : World} {o : Nat} {v0 v : Value} {ys : List S69} {W : World} (h : TInv w0 w o v0 v ys W) : some o ≠ v.ownBlock := Kd.R_ne h.row h.box (by decide)
theorem TInv.step {w0 w : World} {o : Nat} {v0 v v1 : Value} {ys zs : List S69} {W w1 : World} (h : TInv w0 w o v0 v ys W) (ho : w0.heap.size ≤ o) (hb : Below w0.heap.size w0 w1) (hg : W.grownBy w1 v.ownBlock)
  (hat : v1.ownBlock = v.ownBlock ∨ ∃ b, v1.ownBlock = some b ∧ W.heap.size ≤ b) (hr : Kd.R k69 69 w1 w0.heap.size (fun _ => True) v1 zs) : TInv w0 w o v0 v1 zs (w1.setCell ⟨o, 0, none⟩ v1) := by
 have hbox := blk_grown h.box hg h.ne
 refine ⟨blk_put hbox 0 v1 rfl, ?_, below_set hb ho, ?_, ?_⟩
 ·exact Kd.R_mono (Kd.R_far (p := ⟨o, 0, none⟩) (Kd.R_types hr hbox (by decide)) (fun _ hk => hk.2) v1) (fun _ _ => trivial)
 ·exact KeepBut.set_ (h.keep.trans (KeepBut.of_grown hg o) h.at_) 0 v1
 ·rcases hat with e | ⟨b, e, hb2⟩
  ·rw [e]; exact h.at_
  ·exact .inr ⟨b, e, Nat.le_trans h.keep.1 hb2⟩
set_option maxHeartbeats 4000000 in
set_option maxRecDepth 100000 in
theorem check_calls (w0 : World) (A0 : Option Addr) (c0 : Nat) (is : List Int) (A1 : Option Addr) (c1 : Nat) (ought : List Int) (k1 k2 : Int) (o : Nat) (v0 : Value) (xs : List S69) (w : World)
  (h0 : ∀ W, KeepBut w W o v0.ownBlock → Kd.C (Kd.int .i64) W A0 is.length is) (h1 : ∀ W, KeepBut w W o v0.ownBlock → Kd.C (Kd.int .i64) W A1 ought.length ought) (hl : is.length ≤ ought.length) (hn : is.length ≤ 1048576) (hx : xs.length ≤ 1048576)
  (ho : w0.heap.size ≤ o) (hI : TInv w0 w o v0 v0 xs w) :
  Calls Try.prog 49 #[.slice A0 is.length c0, .slice A1 ought.length c1, .int .i64 k1, .int .i64 k2, .pointer (some ⟨o, 0, none⟩)] w fun e w' => ∃ v1 : Value, e = .returned (.tuple #[]) ∧ TInv w0 w o v0 v1 (xs ++ tolA is ought k1 is.length ++ tolB is ought k2 is.length) w' := by
 have H0 := Aside0.mk h0
 have H1 := Aside0.mk h1
 have HI := Aside0.mk hI
 have LA := Aside0.mk (tolA_len is ought k1)
 have LB := Aside0.mk (tolB_len is ought k2)
 clear h0 h1 hI
 go_enter Try.func49, Try.ntmps49
 go_wp2
 go_loopg [15] is.length (fun gf v15 wr => ∃ (i : Nat) (v : Value), v15 = .int .i64 i ∧ i + gf = is.length ∧ Aside0 (TInv w0 w o v0 v (xs ++ tolA is ought k1 i) wr))
 case atStart => exact ⟨0, v0, rfl, by omega, ⟨by rw [tolA, List.append_nil]; exact HI.out⟩⟩
 case round =>
  obtain ⟨i, v, rfl, hi, HV⟩ := hrel
  have hob : wr.cell? ⟨o, 0, none⟩ = some v := (blk_cell HV.out.box 0).trans rfl
  by_cases hlt : i < is.length
  ·obtain ⟨g', rfl⟩ : ∃ g', gk = g' + 1 := ⟨gk - 1, by omega⟩
   obtain ⟨ad, e0, ha⟩ := Kd.at_int (H0.out wr HV.out.keep) (i : Int) (by omega) (by omega)
   obtain ⟨ad1, e1, hc⟩ := Kd.at_int (H1.out wr HV.out.keep) (i : Int) (by omega) (by omega)
   have HS := Aside0.mk (show tolA is ought k1 (i + 1) = tolA is ought k1 i ++ (if 0 ≤ rd ought (i : Int) ∧ rd is (i : Int) ≠ rd ought (i : Int) then [⟨k1, (i : Int)⟩] else []) from rfl)
   obtain ⟨a, hae⟩ : ∃ a, rd is (i : Int) = a := ⟨_, rfl⟩
   obtain ⟨c, hce⟩ : ∃ c, rd ought (i : Int) = c := ⟨_, rfl⟩
   rw [hae] at ha HS
   rw [hce] at hc HS
   rw [Int.toNat_natCast] at ha hc
   clear hae hce
   subst e0 e1
   have il : (i : Int) < (ought.length : Int) := by omega
   have hll := LA.out i
   by_cases hC : 0 ≤ c
   ·have dC : decide (0 ≤ c) = true := decide_eq_true hC
    by_cases hE : a = c
    ·have dE : (a != c) = false := by simpa using hE
     have HZ := Aside0.mk (show tolA is ought k1 (i + 1) = tolA is ought k1 i by rw [HS.out, if_neg (fun h => h.2 hE), List.append_nil])
     clear HS hC hE
     go_wp2
     go_roundg g'
     case measure => omega
     case rel => exact ⟨i + 1, v, by go_num, by omega, ⟨by rw [HZ.out]; exact HV.out⟩⟩
    ·have dE : (a != c) = true := by simpa using hE
     have HZ := Aside0.mk (show tolA is ought k1 (i + 1) = tolA is ought k1 i ++ [⟨k1, (i : Int)⟩] by rw [HS.out, if_pos ⟨hC, hE⟩])
     clear HS hC hE
     go_wp2_with (first
      | ((with_reducible refine gate_builtin (b := .append) (xs := #[.tmp 33, .tmp 37]) rfl ?_); at_builtin; refine Kd.R_append k69 (w0 := w0) w0.heap.size rfl (.tmp 33) (.tmp 37) 38 69 (.agg #[(.int .i64 0), (.int .i64 0)]) 16 rfl Try.underlying38 info69 rfl (by decide) (by omega) v (xs ++ tolA is ought k1 i) (⟨k1, (i : Int)⟩ : S69) [.int .i64 k1, .int .i64 (i : Int)] (fun _ => True) (fun _ => False) rfl rfl ?aP (fun _ hk => hk.elim) ?aF ?aO ?aB ?aS ?aL ?_; (case aP => exact k69_mkM _ _ _ (⟨k1, (i : Int)⟩ : S69)); (case aB => exact HV.out.bel); (case aF => exact (fun _ _ => trivial)); (case aO => exact HV.out.row); (case aS => exact below_size HV.out.bel); (case aL => rw [List.length_append]; omega); intro v1 w1 hr hb hg hat; obtain ⟨NY, hNY⟩ : ∃ NY, (xs ++ tolA is ought k1 i) ++ [(⟨k1, (i : Int)⟩ : S69)] = NY := ⟨_, rfl⟩; rw [hNY] at hr; have HNY := Aside0.mk hNY; clear hNY; obtain ⟨Av, cv, rfl⟩ := Kd.R_slice hr; have hbx := blk_grown HV.out.box hg HV.out.ne; have hco : w1.cell? ⟨o, 0, none⟩ = some v := (blk_cell hbx 0).trans rfl; have hfo := blk_frozen hbx 0; have HN := Aside0.mk (HV.out.step ho hb hg hat hr); clear hr hb hg hat hbx))
     go_roundg g'
     case measure => omega
     case rel => exact ⟨i + 1, _, by go_num, by omega, ⟨by rw [HZ.out, ← List.append_assoc, HNY.out]; exact HN.out⟩⟩
   ·have dC : decide (0 ≤ c) = false := decide_eq_false hC
    have HZ := Aside0.mk (show tolA is ought k1 (i + 1) = tolA is ought k1 i by rw [HS.out, if_neg (fun h => hC h.1), List.append_nil])
    clear HS hC
    go_wp2
    go_roundg g'
    case measure => omega
    case rel => exact ⟨i + 1, v, by go_num, by omega, ⟨by rw [HZ.out]; exact HV.out⟩⟩
  ·obtain rfl : i = is.length := by omega
   have hll := LA.out is.length
   go_wp2
   obtain ⟨wo, rfl⟩ : ∃ wo : World, wo = wr := ⟨_, rfl⟩
   obtain ⟨ZS, hZS⟩ : ∃ ZS, xs ++ tolA is ought k1 is.length = ZS := ⟨_, rfl⟩
   rw [hZS] at HV
   have hzl : ZS.length ≤ 2097152 := by rw [← hZS, List.length_append]; omega
   have HZS := Aside0.mk hZS
   clear hZS hob hll
   go_loopg [42] is.length (fun gf v42 wq => ∃ (i : Nat) (v : Value), v42 = .int .i64 i ∧ i + gf = is.length ∧ Aside0 (TInv w0 w o v0 v (ZS ++ tolB is ought k2 i) wq))
   case atStart => exact ⟨0, v, rfl, by omega, ⟨by rw [tolB, List.append_nil]; exact HV.out⟩⟩
   case round =>
    obtain ⟨i, u, rfl, hi, HU⟩ := hrel
    clear HV
    have hob : wr.cell? ⟨o, 0, none⟩ = some u := (blk_cell HU.out.box 0).trans rfl
    by_cases hlt : i < is.length
    ·obtain ⟨g', rfl⟩ : ∃ g', gk = g' + 1 := ⟨gk - 1, by omega⟩
     obtain ⟨ad, e0, ha⟩ := Kd.at_int (H0.out wr HU.out.keep) (i : Int) (by omega) (by omega)
     obtain ⟨ad1, e1, hc⟩ := Kd.at_int (H1.out wr HU.out.keep) (i : Int) (by omega) (by omega)
     have HS := Aside0.mk (show tolB is ought k2 (i + 1) = tolB is ought k2 i ++ (if rd ought (i : Int) < 0 ∧ 0 ≤ rd is (i : Int) then [⟨k2, (i : Int)⟩] else []) from rfl)
     obtain ⟨a, hae⟩ : ∃ a, rd is (i : Int) = a := ⟨_, rfl⟩
     obtain ⟨c, hce⟩ : ∃ c, rd ought (i : Int) = c := ⟨_, rfl⟩
     rw [hae] at ha HS
     rw [hce] at hc HS
     rw [Int.toNat_natCast] at ha hc
     clear hae hce
     subst e0 e1
     have il : (i : Int) < (ought.length : Int) := by omega
     have hll := LB.out i
     by_cases hC : c < 0
     ·have dC : decide (c < 0) = true := decide_eq_true hC
      by_cases hE : ¬ 0 ≤ a
      ·have dE : decide (0 ≤ a) = false := decide_eq_false hE
       have HZ := Aside0.mk (show tolB is ought k2 (i + 1) = tolB is ought k2 i by rw [HS.out, if_neg (fun h => hE h.2), List.append_nil])
       clear HS hC hE
       go_wp2
       go_roundg g'
       case measure => omega
       case rel => exact ⟨i + 1, u, by go_num, by omega, ⟨by rw [HZ.out]; exact HU.out⟩⟩
      ·have dE : decide (0 ≤ a) = true := decide_eq_true (by omega)
       have HZ := Aside0.mk (show tolB is ought k2 (i + 1) = tolB is ought k2 i ++ [⟨k2, (i : Int)⟩] by rw [HS.out, if_pos ⟨hC, by omega⟩])
       clear HS hC hE
       go_wp2_with (first
        | ((with_reducible refine gate_builtin (b := .append) (xs := #[.tmp 56, .tmp 60]) rfl ?_); at_builtin; refine Kd.R_append k69 (w0 := w0) w0.heap.size rfl (.tmp 56) (.tmp 60) 38 69 (.agg #[(.int .i64 0), (.int .i64 0)]) 16 rfl Try.underlying38 info69 rfl (by decide) (by omega) u (ZS ++ tolB is ought k2 i) (⟨k2, (i : Int)⟩ : S69) [.int .i64 k2, .int .i64 (i : Int)] (fun _ => True) (fun _ => False) rfl rfl ?aP (fun _ hk => hk.elim) ?aF ?aO ?aB ?aS ?aL ?_; (case aP => exact k69_mkM _ _ _ (⟨k2, (i : Int)⟩ : S69)); (case aB => exact HU.out.bel); (case aF => exact (fun _ _ => trivial)); (case aO => exact HU.out.row); (case aS => exact below_size HU.out.bel); (case aL => rw [List.length_append]; omega); intro v1 w1 hr hb hg hat; obtain ⟨NY, hNY⟩ : ∃ NY, (ZS ++ tolB is ought k2 i) ++ [(⟨k2, (i : Int)⟩ : S69)] = NY := ⟨_, rfl⟩; rw [hNY] at hr; have HNY := Aside0.mk hNY; clear hNY; obtain ⟨Av, cv, rfl⟩ := Kd.R_slice hr; have hbx := blk_grown HU.out.box hg HU.out.ne; have hco : w1.cell? ⟨o, 0, none⟩ = some u := (blk_cell hbx 0).trans rfl; have hfo := blk_frozen hbx 0; have HN := Aside0.mk (HU.out.step ho hb hg hat hr); clear hr hb hg hat hbx))
       go_roundg g'
       case measure => omega
       case rel => exact ⟨i + 1, _, by go_num, by omega, ⟨by rw [HZ.out, ← List.append_assoc, HNY.out]; exact HN.out⟩⟩
     ·have dC : decide (c < 0) = false := decide_eq_false hC
      have HZ := Aside0.mk (show tolB is ought k2 (i + 1) = tolB is ought k2 i by rw [HS.out, if_neg (fun h => hC h.1), List.append_nil])
      clear HS hC
      go_wp2
      go_roundg g'
      case measure => omega
      case rel => exact ⟨i + 1, u, by go_num, by omega, ⟨by rw [HZ.out]; exact HU.out⟩⟩
    ·obtain rfl : i = is.length := by omega
     have HF := Aside0.mk (show TInv w0 w o v0 u (xs ++ tolA is ought k1 is.length ++ tolB is ought k2 is.length) wr by rw [HZS.out]; exact HU.out)
     clear hob
     go_wp2
     go_end0
     exact ⟨u, rfl, HF.out⟩
theorem V_of_C {w : World} {A : Option Addr} {xs : List Int} {c : Nat} (h : Kd.C (Kd.int .i64) w A xs.length xs) (hc : xs.length ≤ c) (e base : Nat) : Kd.V (Kd.int .i64) e w base (fun _ => True) (.slice A xs.length c) xs :=
 Kd.V_mk hc (fun W' h' => Kd.Heap.C (by first | exact Kd.heap_int _ | exact Kd.heap_scalar) (fun k hlt => h' k trivial hlt) h)
def twA (l : List S50) : Nat → List S69
 | 0 => []
 | n + 1 => twA l n ++ (if (l.take n).any (meetB (rd_T50 l (n : Int))) = true then [⟨1, (n : Int)⟩] else [])
def slA (l : List S50) : Nat → List S69
 | 0 => []
 | n + 1 => slA l n ++ (if (rd_T50 l (n : Int)).f0 = (rd_T50 l (n : Int)).f1 then [⟨2, (n : Int)⟩] else [])
theorem twA_len (l : List S50) : ∀ n, (twA l n).length ≤ n := by
 intro n
 induction n with
 | zero => exact Nat.le_refl _
 | succ n ih => rw [twA, List.length_append]; split <;> simp <;> omega
theorem slA_len (l : List S50) : ∀ n, (slA l n).length ≤ n := by
 intro n
 induction n with
 | zero => exact Nat.le_refl _
 | succ n ih => rw [slA, List.length_append]; split <;> simp <;> omega
theorem TInv.later {w0 w : World} {o : Nat} {v0 v : Value} {ys : List S69} {W W' : World} (h : TInv w0 w o v0 v ys W) (hb : Below W.heap.size W W') : TInv w0 w o v0 v ys W' :=
 ⟨blk_below h.box hb, Kd.R_below h.row hb, below_step h.bel hb, h.keep.trans (KeepBut.of_below hb o v0.ownBlock) (.inl rfl), h.at_⟩
theorem TInv.anew {w0 w : World} {o : Nat} {v0 v : Value} {ys : List S69} {W : World} (h : TInv w0 w o v0 v ys W) : TInv w0 W o v v ys W := ⟨h.box, h.row, h.bel, KeepBut.refl _ _ _, .inl rfl⟩
theorem TInv.base {w0 w : World} {o : Nat} {v0 v : Value} {ys : List S69} {W : World} (h : TInv w0 w o v0 v ys W) (ho : w0.heap.size ≤ o) : ∀ W' : World, KeepBut W W' o v.ownBlock → ∀ k, k < w0.heap.size → W'.heap[k]? = w0.heap[k]? := by
 intro W' hk k hlt
 rw [hk.2 k (Nat.lt_of_lt_of_le hlt h.bel.size) (by omega) (fun e => ?_), h.bel.block k hlt]
 rcases Kd.R_base2 h.row with h2 | ⟨z, h2, hz⟩
 ·rw [h2] at e; cases e
 ·rw [h2] at e; injection e with e; omega
theorem base_ge {α : Type} {d : Kd α} {e : Nat} {w : World} {base : Nat} {ok : Nat → Prop} {v : Value} {xs : List α} (h : Kd.R d e w base ok v xs) (k : Nat) (hk : v.ownBlock = some k) : base ≤ k := by
 rcases Kd.R_base2 h with h2 | ⟨z, h2, hz⟩
 ·rw [h2] at hk; cases hk
 ·rw [h2] at hk; injection hk with hk; omega
theorem kept_row {w0 w W : World} {o : Nat} {v0 v : Value} {ys : List S69} {A : Option Addr} {c base : Nat} {ok : Nat → Prop} {xs : List Int} (hL : Kd.R (Kd.int .i64) 3 W base ok (.slice A xs.length c) xs) (h : TInv w0 w o v0 v ys W) :
  ∀ W' : World, KeepBut W W' o v.ownBlock → Kd.C (Kd.int .i64) W' A xs.length xs := by
 intro W' hk
 exact Kd.C_kept_own (S := fun k => k = o ∨ some k = v.ownBlock) (Kd.R_apart' (Kd.R_types hL h.box (by decide)) (Kd.R_typed h.row) (by decide)) (fun k hk2 h2 => h2.elim hk2.1.2 hk2.2) W' ⟨hk.1, fun i hi hS => hk.2 i hi (fun e => hS (.inl e)) (fun e => hS (.inr e))⟩
theorem tol_bound (Z : List S69) (is ought : List Int) (k1 k2 : Int) (h : Z.length ≤ 2000) (hn : is.length ≤ 1000) : (Z ++ tolA is ought k1 is.length ++ tolB is ought k2 is.length).length ≤ 1048576 := by
 have h1 := tolA_len is ought k1 is.length
 have h2 := tolB_len is ought k2 is.length
 rw [List.length_append, List.length_append]; omega
set_option maxHeartbeats 8000000 in
set_option maxRecDepth 100000 in
theorem faults_calls (k : Nat) (Ap : Option Addr) (cp : Nat) (lp : List S50) (Aq : Option Addr) (cq : Nat) (lq : List Int) (Ar : Option Addr) (cr : Nat) (lr : List Int) (ls cs : List Int) (w : World)
  (hr0_0 : Kd.C k50 w Ap lp.length lp) (hc0_0 : lp.length ≤ cp) (hr0_1 : Kd.C (Kd.int .i64) w Aq lq.length lq) (hc0_1 : lq.length ≤ cq) (hr0_2 : Kd.C (Kd.int .i64) w Ar lr.length lr) (hc0_2 : lr.length ≤ cr)
  (n0 : lp.length ≤ 1000) (n1 : lq.length ≤ 1000) (n2 : lr.length ≤ 1000) (hB : impl_BookOk.f k lp lq lr = some true) (hS : impl_said.f k lp lq lr = some (ls, cs)) (hls : ls.length = lq.length) (hcs : cs.length = lr.length) :
  Calls Try.prog 20 #[.agg #[.slice Ap lp.length cp, .slice Aq lq.length cq, .slice Ar lr.length cr]] w fun e w' => ∃ v0_ : Value, e = .returned v0_ ∧ Kd.R k69 69 w' w.heap.size (fun _ => True) v0_ (twA lp lp.length ++ slA lp lp.length ++ tolA lq ls 3 lq.length ++ tolB lq ls 4 lq.length ++ tolA lr cs 5 lr.length ++ tolB lr cs 6 lr.length) ∧ Below w.heap.size w w' := by
 have hu29 := Try.underlying29
 have hu50 := Try.underlying50
 have HR0 := Aside0.mk hr0_0
 have HR1 := Aside0.mk hr0_1
 have HR2 := Aside0.mk hr0_2
 have cB := Aside0.mk (fun (W : World) (hb : Below w.heap.size w W) => impl_BookOk.calls k Ap cp lp (fun _ => True) Aq cq lq (fun _ => True) Ar cr lr true W (Kd.C_below hr0_0 hb) hc0_0 (V_of_C (Kd.C_below hr0_1 hb) hc0_1 3 _) (V_of_C (Kd.C_below hr0_2 hb) hc0_2 3 _) hB)
 have cS := Aside0.mk (fun (W : World) (hb : Below w.heap.size w W) => impl_said.calls k Ap cp lp Aq cq lq Ar cr lr ls cs W (Kd.C_below hr0_0 hb) hc0_0 (Kd.C_below hr0_1 hb) hc0_1 (Kd.C_below hr0_2 hb) hc0_2 hS)
 have HLS := Aside0.mk hls
 have HCS := Aside0.mk hcs
 clear hr0_0 hr0_1 hr0_2 hB hS hls hcs
 go_enter Try.func20, Try.ntmps20
 go_wp2_with (first
  | (go_at_call 40; refine (cB.out _ ((Below.refl _ _).alloc (Nat.le_refl _) _)).mono ?_; rintro e w1 ⟨rfl, hb1⟩; have hbx := blk_below (heap_alloc_new w _) hb1; have hz0 : w1.cell? ⟨w.heap.size, 0, none⟩ = some (.slice Ap lp.length cp) := (blk_cell hbx 0).trans rfl; have hbo : w.heap.size < w1.heap.size := blk_lt hbx; have hz1 : (w1.alloc (.cells #[.slice none 0 0] 38)).cell? ⟨w.heap.size, 0, none⟩ = some (.slice Ap lp.length cp) := (blk_cell (blk_alloc hbx _) 0).trans rfl; have hb2 := below_step ((Below.refl _ _).alloc (Nat.le_refl _) _) hb1; clear hb1))
 have HI : TInv w (w1.alloc (.cells #[.slice none 0 0] 38)) w1.heap.size (.slice none 0 0) (.slice none 0 0) [] (w1.alloc (.cells #[.slice none 0 0] 38)) :=
  ⟨heap_alloc_new w1 _, Kd.R_nil _ _ _ _ _, below_alloc hb2 _, KeepBut.refl _ _ _, .inl rfl⟩
 have hbx2 := Aside0.mk (blk_alloc hbx (.cells #[.slice none 0 0] 38))
 obtain ⟨w2, hw2⟩ : ∃ w2, w1.alloc (.cells #[.slice none 0 0] 38) = w2 := ⟨_, rfl⟩
 obtain ⟨o, ho⟩ : ∃ o, w1.heap.size = o := ⟨_, rfl⟩
 rw [hw2] at HI hbx2
 rw [ho] at HI hbo
 simp only [hw2, ho]
 clear hw2 ho hbx hz0 hz1 hb2
 have HI' := Aside0.mk HI
 have hwo : w.heap.size ≤ o := Nat.le_of_lt hbo
 have LW := Aside0.mk (twA_len lp)
 clear HI cB
 go_loopg [19] lp.length (fun gf v19 wr => ∃ (i : Nat) (v : Value), v19 = .int .i64 i ∧ i + gf = lp.length ∧ Aside0 (TInv w w2 o (.slice none 0 0) v (twA lp i) wr))
 case atStart => exact ⟨0, _, rfl, by omega, ⟨HI'.out⟩⟩
 case round =>
  obtain ⟨i, v, rfl, hi, HV⟩ := hrel
  clear HI'
  have hbxr := HV.out.keep.blk hbx2.out (Nat.ne_of_lt hbo) (by simp [Value.ownBlock])
  have hz0 : wr.cell? ⟨w.heap.size, 0, none⟩ = some (.slice Ap lp.length cp) := (blk_cell hbxr 0).trans rfl
  by_cases hlt : i < lp.length
  ·obtain ⟨g', rfl⟩ : ∃ g', gk = g' + 1 := ⟨gk - 1, by omega⟩
   obtain ⟨ad, e0, hx0, hx1, hx2⟩ := at_T50 HR0.out (i : Int) (by omega) (by omega)
   have HS := Aside0.mk (show twA lp (i + 1) = twA lp i ++ (if (lp.take i).any (meetB (rd_T50 lp (i : Int))) = true then [⟨1, (i : Int)⟩] else []) from rfl)
   obtain ⟨X, hX⟩ : ∃ X, rd_T50 lp (i : Int) = X := ⟨_, rfl⟩
   rw [hX] at hx0 hx1 hx2 HS
   rw [Int.toNat_natCast] at hx0 hx1 hx2
   clear hX
   subst e0
   replace hx0 := (HV.out.bel.cell (World.block_lt_of_cell? w _ hx0)).trans hx0
   replace hx1 := (HV.out.bel.cell (World.block_lt_of_cell? w _ hx1)).trans hx1
   replace hx2 := (HV.out.bel.cell (World.block_lt_of_cell? w _ hx2)).trans hx2
   have ht := Aside0.mk hbxr
   clear hbxr
   go_wp2
   have q0 := heap_alloc_new wr (.cells #[.int .i64 X.f0, .int .i64 X.f1, .int .i64 X.f2] 50)
   have HVa := Aside0.mk (HV.out.later (below_alloc (Below.refl _ _) (.cells #[.int .i64 X.f0, .int .i64 X.f1, .int .i64 X.f2] 50)))
   have hta := Aside0.mk (blk_alloc ht.out (.cells #[.int .i64 X.f0, .int .i64 X.f1, .int .i64 X.f2] 50))
   obtain ⟨n, hn⟩ : ∃ n, wr.heap.size = n := ⟨_, rfl⟩
   rw [hn] at q0
   simp only [hn]
   generalize wr.alloc (.cells #[.int .i64 X.f0, .int .i64 X.f1, .int .i64 X.f2] 50) = W at q0 HVa hta ⊢
   clear HV ht hx0 hx1 hx2 hz0 hn
   have hz0 : W.cell? ⟨w.heap.size, 0, none⟩ = some (.slice (some ad) lp.length cp) := (blk_cell hta.out 0).trans rfl
   have kb0 : W.cell? ⟨n, 0, none⟩ = some (.int .i64 X.f0) := (blk_cell q0 0).trans rfl
   have kb1 : W.cell? ⟨n, 1, none⟩ = some (.int .i64 X.f1) := (blk_cell q0 1).trans rfl
   have kb2 : W.cell? ⟨n, 2, none⟩ = some (.int .i64 X.f2) := (blk_cell q0 2).trans rfl
   have b1 : (i : Int) ≤ (cp : Int) := by omega
   have b0 : (0 : Int) ≤ (i : Int) := by omega
   go_still_tail 6, (by kernel_rfl)
   show wpList _ _ _ _ _ W.drew
   have HVb := Aside0.mk (HVa.out.later (below_drew1 (Below.refl _ _)))
   have htb := Aside0.mk (blk_drew hta.out)
   clear HVa hta hz0 kb0 kb1 kb2 q0
   generalize W.drew = W3 at HVb htb ⊢
   have hl : (lp.take i).length = i := by rw [List.length_take]; omega
   have cC := contains_calls X (some ad) cp (lp.take i) W3 (Kd.C_take (Kd.C_below HR0.out HVb.out.bel) (by omega)) (by omega)
   rw [hl] at cC
   have hll := LW.out i
   clear hl b0 b1
   obtain ⟨B, hB⟩ : ∃ B, (lp.take i).any (meetB X) = B := ⟨_, rfl⟩
   rw [hB] at cC HS
   clear hB
   cases B
   ·have HZ := Aside0.mk (show twA lp (i + 1) = twA lp i by rw [HS.out, if_neg (by decide), List.append_nil])
    clear HS
    go_wp2_with (first | (go_at_call 42; refine cC.mono ?_; rintro e w4 ⟨rfl, hb4⟩))
    go_roundg g'
    case measure => omega
    case rel => exact ⟨i + 1, v, by go_num, by omega, ⟨by rw [HZ.out]; exact HVb.out.later hb4⟩⟩
   ·have HZ := Aside0.mk (show twA lp (i + 1) = twA lp i ++ [⟨1, (i : Int)⟩] by rw [HS.out, if_pos rfl])
    clear HS
    go_wp2_with (first
     | (go_at_call 42; refine cC.mono ?_; rintro e w4 ⟨rfl, hb4⟩; have HVc := Aside0.mk (HVb.out.later hb4); have hob : w4.cell? ⟨o, 0, none⟩ = some v := (blk_cell HVc.out.box 0).trans rfl; clear hb4)
     | ((with_reducible refine gate_builtin (b := .append) (xs := #[.tmp 31, .tmp 34]) rfl ?_); at_builtin; refine Kd.R_append k69 (w0 := w) w.heap.size rfl (.tmp 31) (.tmp 34) 38 69 (.agg #[(.int .i64 0), (.int .i64 0)]) 16 rfl Try.underlying38 info69 rfl (by decide) (by omega) v (twA lp i) (⟨1, (i : Int)⟩ : S69) [.int .i64 1, .int .i64 (i : Int)] (fun _ => True) (fun _ => False) rfl rfl ?aP (fun _ hk => hk.elim) ?aF ?aO ?aB ?aS ?aL ?_; (case aP => exact k69_mkM _ _ _ (⟨1, (i : Int)⟩ : S69)); (case aB => exact HVc.out.bel); (case aF => exact (fun _ _ => trivial)); (case aO => exact HVc.out.row); (case aS => exact below_size HVc.out.bel); (case aL => (try rw [List.length_append]); omega); intro v1 w5 hr hb hg hat; obtain ⟨NY, hNY⟩ : ∃ NY, (twA lp i) ++ [(⟨1, (i : Int)⟩ : S69)] = NY := ⟨_, rfl⟩; rw [hNY] at hr; have HNY := Aside0.mk hNY; clear hNY; obtain ⟨Av, cv, rfl⟩ := Kd.R_slice hr; have hbx := blk_grown HVc.out.box hg HVc.out.ne; have hco : w5.cell? ⟨o, 0, none⟩ = some v := (blk_cell hbx 0).trans rfl; have hfo := blk_frozen hbx 0; have HN := Aside0.mk (HVc.out.step hwo hb hg hat hr); clear hr hb hg hat hbx))
    go_roundg g'
    case measure => omega
    case rel => exact ⟨i + 1, _, by go_num, by omega, ⟨by rw [HZ.out, HNY.out]; exact HN.out⟩⟩
  ·obtain rfl : i = lp.length := by omega
   have hll := LW.out lp.length
   have ht := Aside0.mk hbxr
   clear hbxr
   obtain ⟨wo, rfl⟩ : ∃ wo : World, wo = wr := ⟨_, rfl⟩
   obtain ⟨Z1, hZ1⟩ : ∃ Z1, twA lp lp.length = Z1 := ⟨_, rfl⟩
   rw [hZ1] at HV hll
   have HZ1 := Aside0.mk hZ1
   have LS := Aside0.mk (slA_len lp)
   clear hZ1 LW
   go_wp2
   go_loopg [40] lp.length (fun gf v40 wr => ∃ (i : Nat) (v : Value), v40 = .int .i64 i ∧ i + gf = lp.length ∧ Aside0 (TInv w w2 o (.slice none 0 0) v (Z1 ++ slA lp i) wr))
   case atStart => exact ⟨0, v, rfl, by omega, ⟨by rw [slA, List.append_nil]; exact HV.out⟩⟩
   case round =>
    obtain ⟨i, u, rfl, hi, HU⟩ := hrel
    clear HV ht hz0
    have hbxr := HU.out.keep.blk hbx2.out (Nat.ne_of_lt hbo) (by simp [Value.ownBlock])
    have hz0 : wr.cell? ⟨w.heap.size, 0, none⟩ = some (.slice Ap lp.length cp) := (blk_cell hbxr 0).trans rfl
    by_cases hlt : i < lp.length
    ·obtain ⟨g', rfl⟩ : ∃ g', gk = g' + 1 := ⟨gk - 1, by omega⟩
     obtain ⟨ad, e0, hx0, hx1, hx2⟩ := at_T50 HR0.out (i : Int) (by omega) (by omega)
     have HS := Aside0.mk (show slA lp (i + 1) = slA lp i ++ (if (rd_T50 lp (i : Int)).f0 = (rd_T50 lp (i : Int)).f1 then [⟨2, (i : Int)⟩] else []) from rfl)
     obtain ⟨X, hX⟩ : ∃ X, rd_T50 lp (i : Int) = X := ⟨_, rfl⟩
     rw [hX] at hx0 hx1 hx2 HS
     rw [Int.toNat_natCast] at hx0 hx1 hx2
     clear hX
     subst e0
     replace hx0 := (HU.out.bel.cell (World.block_lt_of_cell? w _ hx0)).trans hx0
     replace hx1 := (HU.out.bel.cell (World.block_lt_of_cell? w _ hx1)).trans hx1
     replace hx2 := (HU.out.bel.cell (World.block_lt_of_cell? w _ hx2)).trans hx2
     have hll2 := LS.out i
     have hob0 := blk_lt HU.out.box
     have HUa := Aside0.mk (HU.out.later (below_alloc (Below.refl _ _) (.cells #[.int .i64 X.f0, .int .i64 X.f1, .int .i64 X.f2] 50)))
     have hob : (wr.alloc (.cells #[.int .i64 X.f0, .int .i64 X.f1, .int .i64 X.f2] 50)).cell? ⟨o, 0, none⟩ = some u := (blk_cell HUa.out.box 0).trans rfl
     clear hbxr
     by_cases hE : X.f0 = X.f1
     ·have dE : (X.f0 == X.f1) = true := by simpa using hE
      have HZ := Aside0.mk (show slA lp (i + 1) = slA lp i ++ [⟨2, (i : Int)⟩] by rw [HS.out, if_pos hE])
      clear HS hE
      go_wp2_with (first
       | ((with_reducible refine gate_builtin (b := .append) (xs := #[.tmp 50, .tmp 53]) rfl ?_); at_builtin; refine Kd.R_append k69 (w0 := w) w.heap.size rfl (.tmp 50) (.tmp 53) 38 69 (.agg #[(.int .i64 0), (.int .i64 0)]) 16 rfl Try.underlying38 info69 rfl (by decide) (by omega) u (Z1 ++ slA lp i) (⟨2, (i : Int)⟩ : S69) [.int .i64 2, .int .i64 (i : Int)] (fun _ => True) (fun _ => False) rfl (by first | rfl | simp [Act.eval]) ?aP (fun _ hk => hk.elim) ?aF ?aO ?aB ?aS ?aL ?_; (case aP => exact k69_mkM _ _ _ (⟨2, (i : Int)⟩ : S69)); (case aB => exact HUa.out.bel); (case aF => exact (fun _ _ => trivial)); (case aO => exact HUa.out.row); (case aS => exact below_size HUa.out.bel); (case aL => (try rw [List.length_append]); omega); intro v1 w5 hr hb hg hat; obtain ⟨NY, hNY⟩ : ∃ NY, (Z1 ++ slA lp i) ++ [(⟨2, (i : Int)⟩ : S69)] = NY := ⟨_, rfl⟩; rw [hNY] at hr; have HNY := Aside0.mk hNY; clear hNY; obtain ⟨Av, cv, rfl⟩ := Kd.R_slice hr; have hbx := blk_grown HUa.out.box hg HUa.out.ne; have hco : w5.cell? ⟨o, 0, none⟩ = some u := (blk_cell hbx 0).trans rfl; have hfo := blk_frozen hbx 0; have HN := Aside0.mk (HUa.out.step hwo hb hg hat hr); clear hr hb hg hat hbx))
      go_roundg g'
      case measure => omega
      case rel => exact ⟨i + 1, _, by go_num, by omega, ⟨by rw [HZ.out, ← List.append_assoc, HNY.out]; exact HN.out⟩⟩
     ·have dE : (X.f0 == X.f1) = false := by simpa using hE
      have HZ := Aside0.mk (show slA lp (i + 1) = slA lp i by rw [HS.out, if_neg hE, List.append_nil])
      clear HS hE
      go_wp2
      go_roundg g'
      case measure => omega
      case rel => exact ⟨i + 1, u, by go_num, by omega, ⟨by rw [HZ.out]; exact HUa.out⟩⟩
    ·obtain rfl : i = lp.length := by omega
     have hll2 := LS.out lp.length
     obtain ⟨wp, rfl⟩ : ∃ wp : World, wp = wr := ⟨_, rfl⟩
     obtain ⟨Z2, hZ2⟩ : ∃ Z2, Z1 ++ slA lp lp.length = Z2 := ⟨_, rfl⟩
     rw [hZ2] at HU
     have hzl : Z2.length ≤ 2000 := by rw [← hZ2, List.length_append]; omega
     have HZ2 := Aside0.mk hZ2
     have HU2 := Aside0.mk HU.out.anew
     have hz1 : wp.cell? ⟨w.heap.size, 1, none⟩ = some (.slice Aq lq.length cq) := (blk_cell hbxr 1).trans rfl
     have hz2 : wp.cell? ⟨w.heap.size, 2, none⟩ = some (.slice Ar lr.length cr) := (blk_cell hbxr 2).trans rfl
     have ht := Aside0.mk hbxr
     have tok1 : True := trivial
     clear hZ2 hbxr
     go_wp2_with (first
      | (go_at_call 44; refine (cS.out _ HU.out.bel).mono ?_; rintro e w6 ⟨vL, vC, rfl, hL, hC, hb6⟩; obtain ⟨AL, cL, rfl⟩ := Kd.R_slice hL; obtain ⟨AC, cC, rfl⟩ := Kd.R_slice hC; have HT6 := Aside0.mk (HU2.out.later hb6).anew; have ht6 := blk_below ht.out hb6; have hy1 : w6.cell? ⟨w.heap.size, 1, none⟩ = some (.slice Aq lq.length cq) := (blk_cell ht6 1).trans rfl; have hL6 := Aside0.mk (kept_row hL HT6.out); have hC6 := Aside0.mk (kept_row hC HT6.out); have ht6' := Aside0.mk ht6; clear hL hC hb6 ht6 HU HU2 ht hz0 hz1 hz2)
      | (go_at_call 49; have _t := tok1; refine (check_calls w Aq cq lq AL cL ls 3 4 o u Z2 w6 (fun W hk => Kd.Heap.C (Kd.heap_int _) (HT6.out.base hwo W hk) HR1.out) hL6.out (by have := HLS.out; omega) (by omega) (by omega) hwo HT6.out).mono ?_; rintro e w7 ⟨v1, rfl, hT7⟩; clear tok1 _t; have HT7 := Aside0.mk hT7; have hy2 : w7.cell? ⟨w.heap.size, 2, none⟩ = some (.slice Ar lr.length cr) := (blk_cell (HT7.out.keep.blk ht6'.out (Nat.ne_of_lt hbo) (Kd.R_ne HT6.out.row ht6'.out (by decide))) 2).trans rfl; clear hT7 hy1)
      | (go_at_call 49; refine (check_calls w Ar cr lr AC cC cs 5 6 o v1 _ w7 (fun W hk => Kd.Heap.C (Kd.heap_int _) (HT7.out.anew.base hwo W hk) HR2.out) (fun W hk => hC6.out W (HT7.out.keep.trans hk HT7.out.at_)) (by have := HCS.out; omega) (by omega) (tol_bound Z2 lq ls 3 4 hzl n1) hwo HT7.out.anew).mono ?_; rintro e w8 ⟨v2, rfl, hT8⟩; have HT8 := Aside0.mk hT8; have hob : w8.cell? ⟨o, 0, none⟩ = some v2 := (blk_cell HT8.out.box 0).trans rfl; clear hT8 hy2))
     go_ret
     refine ⟨v2, rfl, ?_, HT8.out.bel⟩
     have h8 := HT8.out.row
     rw [← HZ2.out, ← HZ1.out] at h8
     rw [show twA lp lp.length ++ slA lp lp.length ++ tolA lq ls 3 lq.length ++ tolB lq ls 4 lq.length ++ tolA lr cs 5 lr.length ++ tolB lr cs 6 lr.length = _ from rfl]
     exact h8
theorem fault_one (w1 : World) (base : Nat) (hb : base ≤ w1.heap.size) : Kd.R k69 69 (w1.alloc (.cells #[.int .i64 7, .int .i64 0] 69)) base (fun _ => True) (.slice (some ⟨w1.heap.size, 0, none⟩) 1 1) [(⟨7, 0⟩ : S69)] := by
 refine ⟨fun _ _ => trivial, [.int .i64 7, .int .i64 0], ⟨rfl, .inr ⟨w1.heap.size, 1, #[.int .i64 7, .int .i64 0], rfl, hb, heap_alloc_new w1 _, by decide, by decide, rfl, rfl⟩⟩, ?_⟩
 refine ⟨rfl, fun j p h => ?_⟩
 match j, h with
 | 0, h =>
  obtain rfl : (⟨7, 0⟩ : S69) = p := by simpa using h
  exact k69_mkM _ _ _ _
 | j + 1, h => simp at h
set_option maxHeartbeats 4000000 in
set_option maxRecDepth 100000 in
theorem faults_no (k : Nat) (Ap : Option Addr) (cp : Nat) (lp : List S50) (Aq : Option Addr) (cq : Nat) (lq : List Int) (Ar : Option Addr) (cr : Nat) (lr : List Int) (w : World)
  (hr0_0 : Kd.C k50 w Ap lp.length lp) (hc0_0 : lp.length ≤ cp) (hr0_1 : Kd.C (Kd.int .i64) w Aq lq.length lq) (hc0_1 : lq.length ≤ cq) (hr0_2 : Kd.C (Kd.int .i64) w Ar lr.length lr) (hc0_2 : lr.length ≤ cr)
  (hB : impl_BookOk.f k lp lq lr = some false) :
  Calls Try.prog 20 #[.agg #[.slice Ap lp.length cp, .slice Aq lq.length cq, .slice Ar lr.length cr]] w fun e w' => ∃ v0_ : Value, e = .returned v0_ ∧ Kd.R k69 69 w' w.heap.size (fun _ => True) v0_ [(⟨7, 0⟩ : S69)] ∧ Below w.heap.size w w' := by
 have hu29 := Try.underlying29
 have hu69 := Try.underlying69
 have cB := Aside0.mk (fun (W : World) (hb : Below w.heap.size w W) => impl_BookOk.calls k Ap cp lp (fun _ => True) Aq cq lq (fun _ => True) Ar cr lr false W (Kd.C_below hr0_0 hb) hc0_0 (V_of_C (Kd.C_below hr0_1 hb) hc0_1 3 _) (V_of_C (Kd.C_below hr0_2 hb) hc0_2 3 _) hB)
 clear hr0_0 hr0_1 hr0_2 hB
 go_enter Try.func20, Try.ntmps20
 go_wp2_with (first
  | (go_at_call 40; refine (cB.out _ ((Below.refl _ _).alloc (Nat.le_refl _) _)).mono ?_; rintro e w1 ⟨rfl, hb1⟩; have hb2 := Aside0.mk (below_step ((Below.refl _ _).alloc (Nat.le_refl _) _) hb1); clear hb1))
 go_ret
 exact ⟨_, rfl, fault_one w1 _ hb2.out.size, below_alloc hb2.out _⟩
end Go.Proofs.Ytngnkfpciloamaa.MFnBooked
