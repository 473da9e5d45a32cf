/- Short names for what the walks of the law FnBooked say again and again. -/
import Derived.Test.YtngnkfpciloamaaVFnBooked
namespace Go.Proofs.YtngnkfpciloamaaW.PrintWords
open Go Go.RowKit
theorem rA {A B : Prop} (a : A) (h : A → B := by intro h_; (with_reducible repeat (first | apply Kd.R_alloc | apply Kd.R_drewN | apply Kd.R_drew)); exact h_) : B := h a
theorem bA {A B : Prop} (a : A) (h : A → B := by intro h_; (with_reducible repeat (first | refine blk_drewN ?_ _ | refine blk_drew ?_ | refine blk_alloc ?_ _)); exact h_) : B := h a
theorem hA {A B : Prop} (a : A) (h : A → B := by intro h_; repeat (first | (with_reducible first | exact h_ | apply below_alloc | apply pw_below_drewN | apply below_drew1 | refine below_set ?_ (Aside0.out (by assumption))) | exact h_)) : B := h a
theorem rC {A B : Prop} (h : A → B := by intro h_; (with_reducible repeat (first | apply Kd.R_alloc | apply Kd.R_drewN | apply Kd.R_drew)); exact h_) (a : A) : B := h a
theorem bC {A B : Prop} (h : A → B := by intro h_; (with_reducible repeat (first | refine blk_drewN ?_ _ | refine blk_drew ?_ | refine blk_alloc ?_ _)); exact h_) (a : A) : B := h a
theorem ar {α : Type} {a b : α} (h : a = b := by (try simp only [List.map_toArray, List.map_cons, List.map_nil]); first | done | rfl | (simp only [List.length_drop, List.length_take]; rfl)) : a = b := h
theorem sm {A : Prop} (h : A := by first | (with_reducible assumption) | assumption) : A := h
theorem pk {A B : Prop} (a : A) (h : A → B := by intro h_; first | exact h_.1 | ((repeat' apply And.intro) <;> (simp only [and_assoc] at h_; repeat (first | exact h_.1 | exact h_ | replace h_ := h_.2)))) : B := h a
theorem bB {W0 w W : World} {g : Nat} {o : Obj} (a : W0.heap[g]? = some o) (hb : Below w.heap.size w W) (h : W0.heap[g]? = some o → w.heap[g]? = some o := by intro h_; (with_reducible repeat (first | refine blk_drewN ?_ _ | refine blk_drew ?_ | refine blk_alloc ?_ _)); exact h_) : W.heap[g]? = some o := blk_below (h a) hb
theorem cA {A B : Prop} (a : A) (h : A → B := by intro h_; repeat (first | exact h_ | (with_reducible refine Kd.C_alloc ?_ _) | (with_reducible refine Kd.C_drewN ?_ _) | (with_reducible refine Kd.C_drew ?_))) : B := h a
theorem er {A : Prop} (h : A := by first | rfl | (simp [errW_none, errW_some] <;> rfl) | (simp [*, errW_none, errW_some] <;> rfl)) : A := h
theorem rs {A : Prop} (h : A := by first | rfl | (simp; done) | (simp [*]; done)) : A := h
theorem mk0 {p : Prop} (h : p) : Aside0 p := ⟨h⟩
abbrev I : Bool := true
abbrev O : Bool := false
theorem s1 {α : Type _} (l : List α) (i : Nat) (a : α) : l.toArray.setIfInBounds i a = (l.set i a).toArray := List.setIfInBounds_toArray l i a
theorem s2 {α : Type _} {x : α} {xs : List α} {a : α} : (x :: xs).set 0 a = a :: xs := List.set_cons_zero
theorem s3 {α : Type _} {x : α} {xs : List α} {i : Nat} {a : α} : (x :: xs).set (i + 1) a = x :: xs.set i a := List.set_cons_succ
end Go.Proofs.YtngnkfpciloamaaW.PrintWords
