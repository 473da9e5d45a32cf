/- An array of sixteen slices that a call makes, as a row of rows: its block, a load of all of it, an element by its index. -/
import Derived.Test.YtheinelpeapleaaHandRepeat
namespace Go.Proofs.Ytheinelpeapleaa.HandArr
open Go Go.RowKit Go.Proofs.YtheinelpeapleaaW.PrintWords Go.Proofs.YtheinelpeapleaaW.PrintLast Go.Proofs.YtheinelpeapleaaW.PrintMore
set_option linter.unusedVariables false
set_option linter.unusedSimpArgs false
abbrev nils : Array Value := #[.slice none 0 0, .slice none 0 0, .slice none 0 0, .slice none 0 0, .slice none 0 0, .slice none 0 0, .slice none 0 0, .slice none 0 0, .slice none 0 0, .slice none 0 0, .slice none 0 0, .slice none 0 0, .slice none 0 0, .slice none 0 0, .slice none 0 0, .slice none 0 0]
theorem nils_eq : nils.toList = List.replicate 16 (.slice none 0 0) := rfl
theorem S_of_arr {W : World} {base g : Nat} (hb : W.heap[g]? = some (.cells nils 51 (0, 0))) (hg : base ≤ g) (ok : Nat → Prop) (hok : ok g) :
    Kd.S (Kd.slice 3 (Kd.int .i64)) 51 W base ok (.slice (some ⟨g, 0, none⟩) 16 16) (List.replicate 16 []) := by
  refine Kd.S_bare ⟨fun k hk => ?_, nils.toList, ⟨by rfl, .inr ⟨g, 16, nils, rfl, hg, hb, Nat.le_refl _, by decide, by rfl, by rfl⟩⟩, by rfl, fun j p hj => ?_⟩
  · have : g = k := by simpa [Value.ownBlock] using hk
    subst this; exact hok
  · obtain ⟨hj2, hp⟩ := List.getElem?_eq_some_iff.mp hj
    rw [List.length_replicate] at hj2
    rw [List.getElem_replicate] at hp
    subst hp
    have e : ((nils.toList.drop (j * (Kd.bare (Kd.slice 3 (Kd.int .i64))).sz)).take (Kd.bare (Kd.slice 3 (Kd.int .i64))).sz) = [.slice none 0 0] := by
      show (nils.toList.drop (j * 1)).take 1 = [Value.slice none 0 0]
      rw [nils_eq, List.drop_replicate, List.take_replicate, show min 1 (16 - j * 1) = 1 by omega]
      rfl
    rw [e]
    exact ⟨_, rfl, Kd.R_nil _ _ _ _ _⟩
/-- The block that holds such a row. -/
theorem S_block {W : World} {base g : Nat} {ok : Nat → Prop} {n c : Nat} {xs : List (List Int)} (h : Kd.S (Kd.slice 3 (Kd.int .i64)) 51 W base ok (.slice (some ⟨g, 0, none⟩) n c) xs) : ∃ cur : Array Value, W.heap[g]? = some (.cells cur 51 (0, 0)) ∧ cur.size = c ∧ n = xs.length := by
  obtain ⟨inner, ho⟩ := Kd.S_own h
  rcases ho.2 with ⟨hv, _⟩ | ⟨g', cap, cur, hv, hb, hh, hnc, hcm, hcs, ht⟩
  · cases hv
  · injection hv with e1 e2 e3
    injection e1 with e1
    injection e1 with e1
    subst e1; subst e3
    exact ⟨cur, hh, by rw [hcs]; exact Nat.mul_one _, e2⟩
theorem run_index16 (cs : Array Value) (i : Int) (v : Value) (w : World) (h0 : 0 ≤ i) (h1 : i < 16) (hv : cs[i.toNat]? = some v) : (Instr.index 51 (.agg cs) (.int .i64 i)).run Try.prog w = .ok v w := by
  have hu : Try.prog.underlying 51 = some (.array 16 27) := Try.underlying51
  have hz : (sizeOf 27).run Try.prog w = .ok 1 w := Try.sizeOf27 w
  have ha : (isAgg 27).run Try.prog w = .ok false w := Try.isAgg27 w
  simp only [Instr.index, Sem.run_bind, asIntOf, Sem.run_pure, Result.andThen_ok, run_underlying hu, hz]
  rw [if_pos ⟨h0, by omega⟩]
  simp only [Sem.run_bind, hz, Result.andThen_ok, part, ha, Nat.mul_one]
  simp [hv]
section
variable {ops : Array Oper} {rest : List Oper} {o : Oper} {a : Act} {Q : Exit → Act → World → Prop}
theorem index_event {W : World} (hgd : o.guard = none) (x i : Operand) (ho : o.op = .index 51 x i) (cs : Array Value) (n : Int) (v : Value) (hx : a.eval x = .agg cs) (hi : a.eval i = .int .i64 n) (h0 : 0 ≤ n) (h1 : n < 16) (hv : cs[n.toNat]? = some v)
    (h : wpList Try.prog ops Q rest (a.put o.dst v) W) : wpList Try.prog ops Q (o :: rest) a W := by
  refine Kd.event_run hgd (v := v) (w1 := W) ?_ h
  unfold execOp
  simp only [ho, hx, hi]
  have := run_index16 cs n v W h0 h1 hv
  simp [this]
end
end Go.Proofs.Ytheinelpeapleaa.HandArr
