/- Contracts of the functions over floats, walked. -/
import Derived.Test.YtigbdfhlpnabdaaProg
import Derived.Below
import Derived.Deep.Draws
import Derived.Deep.AppendLies
import Derived.Maps.AppendAt
import Derived.OwnWalk
import Derived.Laws.BytesArg
import Derived.Laws.MakeOwn
import Derived.Laws.OwnMore
import Derived.Deep.OwnRows
import Derived.Tactics
import Derived.Lib.ConvBytes
import Derived.Laws.Slices
import Derived.WalkKit
import Derived.KernelRfl
import Derived.RowKit3
import Derived.Deep.LoopGhost
import Derived.Deep.QuietTactic
import Derived.BigQuiet
import Derived.WideLaws
import Derived.Deep.DeepCutAuto
import Derived.Deep.CutBlock
import Derived.Deep.RegionHeld3
import Derived.Laws.Rows
import Derived.Lib.AppendStr
import Derived.ArgAppend
import Derived.Laws.IdiomCopy
import Derived.OrdersHeld
import Derived.Laws.BitsLemmas
import Derived.RowKit
import Derived.Test.YtigbdfhlpnabdaaWWords
import Derived.Test.YtigbdfhlpnabdaaWLast
import Derived.Test.YtigbdfhlpnabdaaWTab
import Derived.Test.YtigbdfhlpnabdaaWFour
import Derived.Test.YtigbdfhlpnabdaaWQPut
import Derived.Test.YtigbdfhlpnabdaaWApart
import Derived.Test.YtigbdfhlpnabdaaWArr
import Derived.Test.YtigbdfhlpnabdaaWZeros
import Derived.Test.YtigbdfhlpnabdaaWFoot
import Derived.Test.YtigbdfhlpnabdaaWKept
import Derived.Test.YtigbdfhlpnabdaaWShare
import Derived.Test.YtigbdfhlpnabdaaWN
import Derived.Test.YtigbdfhlpnabdaaWFootNe
import Derived.Test.YtigbdfhlpnabdaaWAt
import Derived.Test.YtigbdfhlpnabdaaWEqStruct
import Derived.Test.YtigbdfhlpnabdaaWRepsOne
import Derived.Test.YtigbdfhlpnabdaaWInv
import Derived.Test.YtigbdfhlpnabdaaWInvWords
import Derived.Test.YtigbdfhlpnabdaaWGuard
import Derived.Test.YtigbdfhlpnabdaaWNEv
import Derived.Test.YtigbdfhlpnabdaaWMore
import Derived.Outline
import Derived.Lib.Hide
import Derived.Laws.CopyOwn
import Derived.Deep.RegionLaw
import Derived.IntWalk
import Derived.Test.YtigbdfhlpnabdaaFloat
import Derived.Test.YtigbdfhlpnabdaaHandA
import Derived.Test.YtigbdfhlpnabdaaHandB
import Derived.Test.YtigbdfhlpnabdaaHandC
namespace Go.Proofs.Ytigbdfhlpnabdaa.Hand
open Go Go.RowKit Go.Proofs.YtigbdfhlpnabdaaW.PrintWords Go.Proofs.YtigbdfhlpnabdaaW.PrintLast Go.Proofs.YtigbdfhlpnabdaaW.PrintMore Go.Proofs.Ytigbdfhlpnabdaa.Fl
attribute [local go_sem] run_fadd run_fsub run_fmul run_fquo run_widen run_store_float
set_option linter.unusedVariables false
set_option linter.unusedSimpArgs false
open Go.Proofs.Ytigbdfhlpnabdaa.Hand
attribute [local go_sem] unary_fneg
/-- Two Wides of one class are the same. -/
theorem laws_eqWide.calls (a b c d : Nat) (w : World) (h1 : cls .f64 a = cls .f64 c) (h2 : cls .f64 b = cls .f64 d) :
    Calls Try.prog 20 #[.agg #[.float .f64 a, .float .f64 b], .agg #[.float .f64 c, .float .f64 d]] w fun e w' => e = .returned (.bool true) ∧ Below w.heap.size w w' := by
  go_enter Try.func20, Try.ntmps20
  go_wp2_with (first | ((with_reducible refine gate_callee (f := 43) rfl ?_); (with_reducible refine gate_dst (N := 9) rfl ?_); (try (refine gate_guard (by rfl) ?_; dsimp only)); refine goesL_ (some 9) rfl rfl Try.func43 (by kernel_rfl) rfl #[.float .f64 a, .float .f64 c] rfl (by (try simp only [List.map_toArray, List.map_cons, List.map_nil]); first | done | rfl) ?_; (with_reducible refine (laws_sameFloat.calls a c _ h1).mono ?_); rintro e w2 ⟨rfl, ⟨n_, rfl⟩⟩; refine ⟨_, rfl, ?_⟩) | ((with_reducible refine gate_callee (f := 43) rfl ?_); (with_reducible refine gate_dst (N := 15) rfl ?_); (try (refine gate_guard (by rfl) ?_; dsimp only)); refine goesL_ (some 15) rfl rfl Try.func43 (by kernel_rfl) rfl #[.float .f64 b, .float .f64 d] rfl (by (try simp only [List.map_toArray, List.map_cons, List.map_nil]); first | done | rfl) ?_; (with_reducible refine (laws_sameFloat.calls b d _ h2).mono ?_); rintro e w2 ⟨rfl, ⟨n_, rfl⟩⟩; refine ⟨_, rfl, ?_⟩))
  go_ret
  exact ⟨rfl, by repeat (first | (with_reducible first | exact Below.refl _ _ | apply below_alloc | apply pw_below_drewN | apply below_drew1) | (refine below_set ?_ (by omega)) | exact Below.refl _ _)⟩
/-- What the law's two boxes hold, and that nothing older has been written. -/
structure SB (a b c d : Nat) (w w' : World) : Prop where
  b0 : w'.heap[w.heap.size]? = some (.cells #[.float .f64 a, .float .f64 b] 41 (0, 0))
  b1 : w'.heap[w.heap.size + 1]? = some (.cells #[.float .f64 c, .float .f64 d] 41 (0, 0))
  bel : Below w.heap.size w w'
theorem SB.below {a b c d : Nat} {w W W' : World} (h : SB a b c d w W) (hb : Below W.heap.size W W') : SB a b c d w W' := ⟨blk_below h.b0 hb, blk_below h.b1 hb, below_then h.bel (below_size h.bel) hb⟩
theorem SB.alloc {a b c d : Nat} {w W : World} (h : SB a b c d w W) (o : Obj) : SB a b c d w (W.alloc o) := h.below (below_alloc (Below.refl _ _) o)
theorem SB.drewN {a b c d : Nat} {w W : World} (h : SB a b c d w W) (n : Nat) : SB a b c d w (W.drewN n) := ⟨h.b0, h.b1, pw_below_drewN h.bel n⟩
theorem SB.drew {a b c d : Nat} {w W : World} (h : SB a b c d w W) : SB a b c d w W.drew := h.drewN 1
theorem SB.set {a b c d : Nat} {w W : World} (h : SB a b c d w W) (g j : Nat) (v : Value) (hg : w.heap.size + 2 ≤ g) : SB a b c d w (W.setCell ⟨g, j, none⟩ v) :=
  ⟨blk_far h.b0 (by show w.heap.size ≠ g; omega) v, blk_far h.b1 (by show w.heap.size + 1 ≠ g; omega) v, below_set h.bel (by omega)⟩
theorem SB.size {a b c d : Nat} {w W : World} (h : SB a b c d w W) : w.heap.size + 2 ≤ W.heap.size := by have := blk_lt h.b1; omega
theorem SB.start (a b c d : Nat) (w : World) : SB a b c d w ((w.alloc (.cells #[.float .f64 a, .float .f64 b] 41)).alloc (.cells #[.float .f64 c, .float .f64 d] 41)) :=
  ⟨blk_alloc (blk_new w _) _, blk_at (by simp), below_alloc (below_alloc (Below.refl _ _) _) _⟩
abbrev SC (a b c d : Nat) (w w' : World) : Prop := w'.cell? ⟨w.heap.size, 0, none⟩ = some (.float .f64 a) ∧ w'.cell? ⟨w.heap.size, 1, none⟩ = some (.float .f64 b) ∧ w'.cell? ⟨w.heap.size + 1, 0, none⟩ = some (.float .f64 c) ∧ w'.cell? ⟨w.heap.size + 1, 1, none⟩ = some (.float .f64 d) ∧ SB a b c d w w'
theorem SB.all {a b c d : Nat} {w W : World} (h : SB a b c d w W) : SC a b c d w W := ⟨blk_cell h.b0 0, blk_cell h.b0 1, blk_cell h.b1 0, blk_cell h.b1 1, h⟩
theorem SB.of {a b c d : Nat} {w W : World} (h : SC a b c d w W) : SB a b c d w W := h.2.2.2.2
theorem SB.after {a b c d : Nat} {w W W' : World} (hb : Below W.heap.size W W') (h : SB a b c d w W) : SB a b c d w W' := h.below hb

/-- The same, and what the first answer's box holds. -/
structure SD (a b c d g x y : Nat) (w w' : World) : Prop where
  sb : SB a b c d w w'
  b5 : w'.heap[g]? = some (.cells #[.float .f64 x, .float .f64 y] 34 (0, 0))
theorem SD.after {a b c d g x y : Nat} {w W W' : World} (hb : Below W.heap.size W W') (h : SD a b c d g x y w W) : SD a b c d g x y w W' := ⟨h.sb.below hb, blk_below h.b5 hb⟩
theorem SD.alloc {a b c d g x y : Nat} {w W : World} (h : SD a b c d g x y w W) (o : Obj) : SD a b c d g x y w (W.alloc o) := h.after (below_alloc (Below.refl _ _) o)
theorem SD.drewN {a b c d g x y : Nat} {w W : World} (h : SD a b c d g x y w W) (n : Nat) : SD a b c d g x y w (W.drewN n) := ⟨h.sb.drewN n, h.b5⟩
theorem SD.drew {a b c d g x y : Nat} {w W : World} (h : SD a b c d g x y w W) : SD a b c d g x y w W.drew := h.drewN 1
theorem SD.set {a b c d g x y : Nat} {w W : World} (h : SD a b c d g x y w W) (p j : Nat) (v : Value) (hp : w.heap.size + 2 ≤ p) (hg : g < p) : SD a b c d g x y w (W.setCell ⟨p, j, none⟩ v) :=
  ⟨h.sb.set p j v hp, blk_far h.b5 (by show g ≠ p; omega) v⟩
abbrev SE (a b c d g x y : Nat) (w w' : World) : Prop := w'.cell? ⟨w.heap.size, 0, none⟩ = some (.float .f64 a) ∧ w'.cell? ⟨w.heap.size, 1, none⟩ = some (.float .f64 b) ∧ w'.cell? ⟨w.heap.size + 1, 0, none⟩ = some (.float .f64 c) ∧ w'.cell? ⟨w.heap.size + 1, 1, none⟩ = some (.float .f64 d) ∧ SD a b c d g x y w w'
theorem SD.all {a b c d g x y : Nat} {w W : World} (h : SD a b c d g x y w W) : SE a b c d g x y w W := ⟨h.sb.all.1, h.sb.all.2.1, h.sb.all.2.2.1, h.sb.all.2.2.2.1, h⟩
theorem SD.of {a b c d g x y : Nat} {w W : World} (h : SE a b c d g x y w W) : SD a b c d g x y w W := h.2.2.2.2
set_option maxHeartbeats 8000000 in
set_option maxRecDepth 100000 in
theorem laws_FnExactQuotWide.calls (a b c d : Nat) (w : World) (ha : a < 18446744073709551616) (hb_ : b < 18446744073709551616) (hc : c < 18446744073709551616) (hd : d < 18446744073709551616) :
    Calls Try.prog 5 #[.agg #[.float .f64 a, .float .f64 b], .agg #[.float .f64 c, .float .f64 d]] w fun e w' => e = .returned (.bool true) ∧ Below w.heap.size w w' := by
  go_enter Try.func5, Try.ntmps5
  go_upto_region 1 with (fail)
  go_cut [5, 6] (fun v5 v6 wc => ∃ g x y, v5 = .pointer (some ⟨g, 0, none⟩) ∧ v6 = .bool (qok a b c d) ∧ Aside0 (wc.heap[g]? = some (.cells #[.float .f64 x, .float .f64 y] 34 (0, 0)) ∧ (cls .f64 x, cls .f64 y) = qval a b c d ∧ w.heap.size + 2 ≤ g ∧ SB a b c d w wc))
  case first =>
    go_region_held3 (fun w' => w'.cell? ⟨w.heap.size, 0, none⟩ = some (.float .f64 a) ∧ w'.cell? ⟨w.heap.size, 1, none⟩ = some (.float .f64 b) ∧ w'.cell? ⟨w.heap.size + 1, 0, none⟩ = some (.float .f64 c) ∧ w'.cell? ⟨w.heap.size + 1, 1, none⟩ = some (.float .f64 d) ∧ SB a b c d w w') ((refine SB.all ?_; repeat (first | (with_reducible exact SB.start _ _ _ _ _) | (with_reducible assumption) | (refine SB.of ?_; assumption) | (with_reducible apply SB.drew) | (with_reducible apply SB.drewN) | (with_reducible apply SB.alloc) | (refine SB.set ?_ _ _ _ (by first | omega | (have := SB.size ‹SB a b c d w _›; omega))) | (refine SB.after (by assumption) ?_))))
      (first | (go_at_call 22; refine (laws_toWide.calls _ _ _).mono ?_; rintro e w' ⟨rfl, hb⟩; have hsz := hb.size; (try simp at hsz); (try ((first | (have hz := blk_below (blk_drew (blk_at (n := w.heap.size + 1 + 1) (by simp; done))) hb) | (have hz := blk_below (blk_at (n := w.heap.size + 1 + 1) (by simp; done)) hb) | (have hz := blk_below (blk_new _ _) hb)); have hz0 := (blk_cell hz 0).trans (show _ = some (Value.float .f64 0) from rfl); have hz1 := (blk_cell hz 1).trans (show _ = some (Value.float .f64 0) from rfl); have hf0 := blk_frozen hz 0; have hf1 := blk_frozen hz 1)); (try (have hz := blk_below (by assumption) hb; have hz0 := (blk_cell hz 0).trans (show _ = some (Value.float .f64 0) from rfl); have hz1 := (blk_cell hz 1).trans (show _ = some (Value.float .f64 0) from rfl); have hf0 := blk_frozen hz 0; have hf1 := blk_frozen hz 1))) | (go_at_call 21; refine (spec_QuotWide.calls a b c d _).mono ?_; rintro e w' ⟨x, y, rfl, hq, hb⟩; have hsz := hb.size; (try simp at hsz); (try ((first | (have hz := blk_below (blk_drew (blk_at (n := w.heap.size + 1 + 1) (by simp; done))) hb) | (have hz := blk_below (blk_at (n := w.heap.size + 1 + 1) (by simp; done)) hb) | (have hz := blk_below (blk_new _ _) hb)); have hz0 := (blk_cell hz 0).trans (show _ = some (Value.float .f64 0) from rfl); have hz1 := (blk_cell hz 1).trans (show _ = some (Value.float .f64 0) from rfl); have hf0 := blk_frozen hz 0; have hf1 := blk_frozen hz 1)); (try (have hz := blk_below (by assumption) hb; have hz0 := (blk_cell hz 0).trans (show _ = some (Value.float .f64 0) from rfl); have hz1 := (blk_cell hz 1).trans (show _ = some (Value.float .f64 0) from rfl); have hf0 := blk_frozen hz 0; have hf1 := blk_frozen hz 1))))
    all_goals go_wp2
    all_goals go_meet
    all_goals
      refine ⟨_, x, y, rfl, rfl, ⟨?_, hq, ?_, SB.of (by assumption)⟩⟩
      · first | exact blk_new _ _ | exact blk_put (blk_put hz 0 _ rfl) 1 _ rfl
      · omega
  case rest =>
    obtain ⟨g, x, y, rfl, rfl, HC⟩ := hcut
    have hg := blk_lt HC.out.1
    have hgw := HC.out.2.2.1
    have hSD : SD a b c d g x y w wc := ⟨HC.out.2.2.2, HC.out.1⟩
    go_upto_region 2 with (fail)
    go_cut [7, 8] (fun v7 v8 wd => ∃ g2 x2 y2, v7 = .pointer (some ⟨g2, 0, none⟩) ∧ v8 = .bool (qok a b c d) ∧ Aside0 (wd.heap[g2]? = some (.cells #[.float .f64 x2, .float .f64 y2] 34 (0, 0)) ∧ (cls .f64 x2, cls .f64 y2) = qval a b c d ∧ SD a b c d g x y w wd))
    case first =>
      go_region_held3 (fun w' => w'.cell? ⟨w.heap.size, 0, none⟩ = some (.float .f64 a) ∧ w'.cell? ⟨w.heap.size, 1, none⟩ = some (.float .f64 b) ∧ w'.cell? ⟨w.heap.size + 1, 0, none⟩ = some (.float .f64 c) ∧ w'.cell? ⟨w.heap.size + 1, 1, none⟩ = some (.float .f64 d) ∧ SD a b c d g x y w w') ((refine SD.all ?_; repeat (first | (with_reducible assumption) | (refine SD.of ?_; assumption) | (with_reducible apply SD.drew) | (with_reducible apply SD.drewN) | (with_reducible apply SD.alloc) | (refine SD.set ?_ _ _ _ (by omega) (by omega)) | (refine SD.after (by assumption) ?_))))
        (first | (go_at_call 22; refine (laws_toWide.calls _ _ _).mono ?_; rintro e w' ⟨rfl, hb⟩; have hsz := hb.size; (try simp at hsz); (try ((first | (have hz := blk_below (blk_drew (blk_new _ _)) hb) | (have hz := blk_below (blk_new _ _) hb)); have hz0 := (blk_cell hz 0).trans (show _ = some (Value.float .f64 0) from rfl); have hz1 := (blk_cell hz 1).trans (show _ = some (Value.float .f64 0) from rfl); have hf0 := blk_frozen hz 0; have hf1 := blk_frozen hz 1)); (try (have hz := blk_below (by assumption : _ = some (Obj.cells #[Value.float .f64 0, Value.float .f64 0] 34 (0, 0))) hb; have hz0 := (blk_cell hz 0).trans (show _ = some (Value.float .f64 0) from rfl); have hz1 := (blk_cell hz 1).trans (show _ = some (Value.float .f64 0) from rfl); have hf0 := blk_frozen hz 0; have hf1 := blk_frozen hz 1))) | (go_at_call 23; refine (impl_QuotWide.calls a b c d _ ha hb_ hc hd).mono ?_; rintro e w' ⟨x2, y2, rfl, hq, hb⟩; have hsz := hb.size; (try simp at hsz); (try ((first | (have hz := blk_below (blk_drew (blk_new _ _)) hb) | (have hz := blk_below (blk_new _ _) hb)); have hz0 := (blk_cell hz 0).trans (show _ = some (Value.float .f64 0) from rfl); have hz1 := (blk_cell hz 1).trans (show _ = some (Value.float .f64 0) from rfl); have hf0 := blk_frozen hz 0; have hf1 := blk_frozen hz 1)); (try (have hz := blk_below (by assumption : _ = some (Obj.cells #[Value.float .f64 0, Value.float .f64 0] 34 (0, 0))) hb; have hz0 := (blk_cell hz 0).trans (show _ = some (Value.float .f64 0) from rfl); have hz1 := (blk_cell hz 1).trans (show _ = some (Value.float .f64 0) from rfl); have hf0 := blk_frozen hz 0; have hf1 := blk_frozen hz 1))))
      all_goals go_wp2
      all_goals go_meet
      all_goals
        refine ⟨_, x2, y2, rfl, rfl, ⟨?_, hq, SD.of (by assumption)⟩⟩
        first | exact blk_new _ _ | exact blk_put (blk_put hz 0 _ rfl) 1 _ rfl
    case rest =>
      obtain ⟨g2, x2, y2, rfl, rfl, HD⟩ := hcut
      have k0 := (blk_cell HD.out.1 0).trans (show _ = some (Value.float .f64 x2) from rfl)
      have k1 := (blk_cell HD.out.1 1).trans (show _ = some (Value.float .f64 y2) from rfl)
      have l0 := (blk_cell HD.out.2.2.b5 0).trans (show _ = some (Value.float .f64 x) from rfl)
      have l1 := (blk_cell HD.out.2.2.b5 1).trans (show _ = some (Value.float .f64 y) from rfl)
      have hq : (cls .f64 x2, cls .f64 y2) = (cls .f64 x, cls .f64 y) := HD.out.2.1.trans HC.out.2.1.symm
      have q0 : cls .f64 x2 = cls .f64 x := congrArg Prod.fst hq
      have q1 : cls .f64 y2 = cls .f64 y := congrArg Prod.snd hq
      have HB := Aside0.mk HD.out.2.2.sb.bel
      clear hq hSD hg hgw
      go_wp2_with (first | ((with_reducible refine gate_callee (f := 20) rfl ?_); refine goesL_ (some 27) rfl rfl Try.func20 (by kernel_rfl) rfl #[.agg #[.float .f64 x2, .float .f64 y2], .agg #[.float .f64 x, .float .f64 y]] rfl (by (try simp only [List.map_toArray, List.map_cons, List.map_nil]); first | done | rfl) ?_; (with_reducible refine (laws_eqWide.calls x2 y2 x y _ q0 q1).mono ?_); rintro e w2 ⟨rfl, hb2⟩; refine ⟨_, rfl, ?_⟩; have n0_ := Aside0.mk (below_step HB.out hb2); clear HB hb2; have HB := n0_; clear n0_))
      go_ret
      exact ⟨rfl, HB.out⟩

end Go.Proofs.Ytigbdfhlpnabdaa.Hand
