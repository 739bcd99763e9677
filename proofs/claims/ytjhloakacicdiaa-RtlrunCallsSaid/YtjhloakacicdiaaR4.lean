/-
  What the functions of rtlrun compute, told by a plain interpreter; it holds of programs that pass the check of right form and are light.
-/
import Derived.Test.YtjhloakacicdiaaR3
set_option linter.unusedVariables false
set_option linter.unusedSimpArgs false
namespace Go.Proofs.Ytjhloakacicdiaa
open Go.AH
attribute [local irreducible] W RS
theorem R_tf (n : Int) (h : Hp) : TF Try.prog 20 ⟨[.int .i64 n]⟩ h (.agg ⟨[.int .i64 n, .int .i64 0]⟩) h := by
  refine TF.still (fn := Try.f20) (c := (Try.f20.body.getD .skip)) Try.func20 (by kernel_rfl) Try.ntmps20 (by kernel_rfl) (by simp) ?_
  conv => arg 2; whnf
  repeat (first | ((with_reducible apply RS.move); exact rfl; exact rfl; exact rfl) | ((with_reducible apply RS.store); exact rfl; exact rfl; exact rfl; exact rfl; exact rfl; exact Nat.le_of_ble_eq_true rfl; exact rfl; exact rfl; exact rfl) | ((with_reducible apply RS.alloc); exact rfl; exact rfl) | ((with_reducible apply RS.build); exact rfl; exact rfl; exact rfl; exact rfl) | ((with_reducible apply RS.nil); exact mixed; kernel_rfl) | ((with_reducible apply W.seq)) | ((with_reducible apply W.reg); kernel_rfl) | ((with_reducible apply W.ret)) | ((with_reducible apply thenK_n)))
  exact endsK_ret _ (.cons (.cellN rfl rfl rfl (Nat.le_of_ble_eq_true rfl)) .nil) ⟨rfl, rfl⟩
def insZ : InsS := ⟨0, 0, ⟨0, 0⟩, ⟨0, 0⟩, 0, false, false, 0, 0, []⟩
def termZ : TermS := ⟨0, 0, ⟨0, 0⟩, ⟨0, 0⟩, 0, 0⟩
theorem SlAt.two {α : Type} {h : Hp} {b w : Nat} {c1 c2 : List Value} {e : TypeId} {x y : α} {R : List Value → α → Prop} (hm : h.m b = some ⟨⟨c1 ++ c2⟩, e⟩) (l1 : c1.length = w) (l2 : c2.length = w) (r1 : R c1 x) (r2 : R c2 y) : SlAt h (some ⟨b, 0, none⟩) w [x, y] R := by
  refine ⟨fun i z hz => ⟨b, 0, _, e, rfl, hm, ?_, ?_⟩⟩
  · have hi := (List.getElem?_eq_some_iff.1 hz).1
    rw [List.length_append, l1, l2]
    have hi : i < 2 := hi
    have : i = 0 ∨ i = 1 := by omega
    rcases this with rfl | rfl <;> omega
  · rw [takeV_eq]
    match i, hz with
    | 0, hz =>
      have : x = z := by simpa using hz
      subst this
      rw [show 0 + 0 * w = 0 by omega, List.drop_zero, ← l1, List.take_left]; exact r1
    | 1, hz =>
      have : y = z := by simpa using hz
      subst this
      rw [show 0 + 1 * w = c1.length by omega, List.drop_left, ← l2, List.take_length]; exact r2
    | i + 2, hz => simp at hz
theorem SlAt.three {α : Type} {h : Hp} {b w : Nat} {c1 c2 c3 : List Value} {e : TypeId} {x y u : α} {R : List Value → α → Prop} (hm : h.m b = some ⟨⟨c1 ++ (c2 ++ c3)⟩, e⟩) (l1 : c1.length = w) (l2 : c2.length = w) (l3 : c3.length = w) (r1 : R c1 x) (r2 : R c2 y) (r3 : R c3 u) : SlAt h (some ⟨b, 0, none⟩) w [x, y, u] R := by
  refine ⟨fun i z hz => ⟨b, 0, _, e, rfl, hm, ?_, ?_⟩⟩
  · have hi := (List.getElem?_eq_some_iff.1 hz).1
    rw [List.length_append, List.length_append, l1, l2, l3]
    have hi : i < 3 := hi
    have : i = 0 ∨ i = 1 ∨ i = 2 := by omega
    rcases this with rfl | rfl | rfl <;> omega
  · rw [takeV_eq]
    match i, hz with
    | 0, hz =>
      have : x = z := by simpa using hz
      subst this
      rw [show 0 + 0 * w = 0 by omega, List.drop_zero, ← l1, List.take_left]; exact r1
    | 1, hz =>
      have : y = z := by simpa using hz
      subst this
      rw [show 0 + 1 * w = c1.length by omega, List.drop_left, ← l2, List.take_left]; exact r2
    | 2, hz =>
      have : u = z := by simpa using hz
      subst this
      rw [← List.append_assoc, show 0 + 2 * w = (c1 ++ c2).length by rw [List.length_append]; omega, List.drop_left, ← l3, List.take_length]; exact r3
    | i + 3, hz => simp at hz
def f0P (k : Int) : FuncS := ⟨⟨#[109, 97, 105, 110]⟩, 0, 0, 1, [], [⟨[{ insZ with op := 28, ref := 1, args := [⟨-1, k⟩] }], { termZ with kind := 3, a := ⟨0, 0⟩ }⟩]⟩
def b0P : BlockS := ⟨[{ insZ with op := 24, dst := 1 }, { insZ with op := 27, dst := -1, a := ⟨1, 0⟩, b := ⟨0, 0⟩, size := 8 }], { termZ with kind := 2, op := 16, a := ⟨0, 0⟩, b := ⟨-1, 0⟩, goto := 2, els := 1 }⟩
def b1P : BlockS := ⟨[{ insZ with op := 4, dst := 2, a := ⟨0, 0⟩, b := ⟨-1, 1⟩ }, { insZ with op := 28, dst := 2, ref := 1, args := [⟨2, 0⟩] }], { termZ with kind := 1, goto := 2 }⟩
def b2P : BlockS := ⟨[{ insZ with op := 26, dst := 3, a := ⟨1, 0⟩, size := 8 }, { insZ with op := 30, dst := -1, a := ⟨3, 0⟩ }], { termZ with kind := 3, a := ⟨3, 0⟩ }⟩
def f1P : FuncS := ⟨⟨#[102]⟩, 1, 1, 4, [8, 4], [b0P, b1P, b2P]⟩
def callsP (k : Int) : ProgS := ⟨[f0P k, f1P], [], 0, 0⟩
theorem callsP_run (k : Int) (hk : 97 ≤ k ∧ k ≤ 100) : RunP (callsP k) := by
  have hz : k = 97 ∨ k = 98 ∨ k = 99 ∨ k = 100 := by omega
  have hok : (callsP k).ok := by
    clear hk
    rcases hz with rfl | rfl | rfl | rfl
    all_goals
      refine ⟨by decide, fun f hf => ?_, by decide, fun g hg => (by cases hg), ⟨by decide, by decide⟩, ⟨by decide, by decide⟩⟩
      simp only [callsP, List.mem_cons, List.not_mem_nil, or_false] at hf
      rcases hf with rfl | rfl
      · refine ⟨⟨by decide, by decide⟩, ⟨by decide, by decide⟩, by decide, by decide, fun a ha => (by cases ha), by decide, fun b hb => ?_⟩
        simp only [f0P, List.mem_singleton] at hb
        subst hb
        refine ⟨by decide, fun x hx => ?_, ⟨⟨by decide, by decide⟩, ⟨by decide, by decide⟩, ⟨⟨by decide, by decide⟩, ⟨by decide, by decide⟩⟩, ⟨⟨by decide, by decide⟩, ⟨by decide, by decide⟩⟩, ⟨by decide, by decide⟩, ⟨by decide, by decide⟩⟩⟩
        simp only [List.mem_singleton] at hx
        subst hx
        refine ⟨⟨by decide, by decide⟩, ⟨by decide, by decide⟩, ⟨⟨by decide, by decide⟩, ⟨by decide, by decide⟩⟩, ⟨⟨by decide, by decide⟩, ⟨by decide, by decide⟩⟩, ⟨by decide, by decide⟩, ⟨by decide, by decide⟩, ⟨by decide, by decide⟩, by decide, fun a ha => ?_⟩
        simp only [List.mem_singleton] at ha
        subst ha
        exact ⟨⟨by decide, by decide⟩, ⟨by decide, by decide⟩⟩
      · refine ⟨⟨by decide, by decide⟩, ⟨by decide, by decide⟩, by decide, by decide, fun a ha => ?_, by decide, fun b hb => ?_⟩
        · simp only [f1P, List.mem_cons, List.not_mem_nil, or_false] at ha
          rcases ha with rfl | rfl <;> exact ⟨by decide, by decide⟩
        · simp only [f1P, List.mem_cons, List.not_mem_nil, or_false] at hb
          rcases hb with rfl | rfl | rfl
          · refine ⟨by decide, fun x hx => ?_, ⟨⟨by decide, by decide⟩, ⟨by decide, by decide⟩, ⟨⟨by decide, by decide⟩, ⟨by decide, by decide⟩⟩, ⟨⟨by decide, by decide⟩, ⟨by decide, by decide⟩⟩, ⟨by decide, by decide⟩, ⟨by decide, by decide⟩⟩⟩
            simp only [b0P, List.mem_cons, List.not_mem_nil, or_false] at hx
            rcases hx with rfl | rfl <;> exact ⟨⟨by decide, by decide⟩, ⟨by decide, by decide⟩, ⟨⟨by decide, by decide⟩, ⟨by decide, by decide⟩⟩, ⟨⟨by decide, by decide⟩, ⟨by decide, by decide⟩⟩, ⟨by decide, by decide⟩, ⟨by decide, by decide⟩, ⟨by decide, by decide⟩, by decide, fun a ha => (by cases ha)⟩
          · refine ⟨by decide, fun x hx => ?_, ⟨⟨by decide, by decide⟩, ⟨by decide, by decide⟩, ⟨⟨by decide, by decide⟩, ⟨by decide, by decide⟩⟩, ⟨⟨by decide, by decide⟩, ⟨by decide, by decide⟩⟩, ⟨by decide, by decide⟩, ⟨by decide, by decide⟩⟩⟩
            simp only [b1P, List.mem_cons, List.not_mem_nil, or_false] at hx
            rcases hx with rfl | rfl
            · exact ⟨⟨by decide, by decide⟩, ⟨by decide, by decide⟩, ⟨⟨by decide, by decide⟩, ⟨by decide, by decide⟩⟩, ⟨⟨by decide, by decide⟩, ⟨by decide, by decide⟩⟩, ⟨by decide, by decide⟩, ⟨by decide, by decide⟩, ⟨by decide, by decide⟩, by decide, fun a ha => (by cases ha)⟩
            · refine ⟨⟨by decide, by decide⟩, ⟨by decide, by decide⟩, ⟨⟨by decide, by decide⟩, ⟨by decide, by decide⟩⟩, ⟨⟨by decide, by decide⟩, ⟨by decide, by decide⟩⟩, ⟨by decide, by decide⟩, ⟨by decide, by decide⟩, ⟨by decide, by decide⟩, by decide, fun a ha => ?_⟩
              simp only [List.mem_singleton] at ha
              subst ha
              exact ⟨⟨by decide, by decide⟩, ⟨by decide, by decide⟩⟩
          · refine ⟨by decide, fun x hx => ?_, ⟨⟨by decide, by decide⟩, ⟨by decide, by decide⟩, ⟨⟨by decide, by decide⟩, ⟨by decide, by decide⟩⟩, ⟨⟨by decide, by decide⟩, ⟨by decide, by decide⟩⟩, ⟨by decide, by decide⟩, ⟨by decide, by decide⟩⟩⟩
            simp only [b2P, List.mem_cons, List.not_mem_nil, or_false] at hx
            rcases hx with rfl | rfl <;> exact ⟨⟨by decide, by decide⟩, ⟨by decide, by decide⟩, ⟨⟨by decide, by decide⟩, ⟨by decide, by decide⟩⟩, ⟨⟨by decide, by decide⟩, ⟨by decide, by decide⟩⟩, ⟨by decide, by decide⟩, ⟨by decide, by decide⟩, ⟨by decide, by decide⟩, by decide, fun a ha => (by cases ha)⟩
  have hl : lightP (callsP k) = true ∧ rightP (callsP k) = true := by rcases hz with rfl | rfl | rfl | rfl <;> exact ⟨by kernel_rfl, by kernel_rfl⟩
  exact (lightP_all hl.1).run hok hl.2
structure CallsOK (k : Int) (r : RunS) : Prop where
  over : 100 < k + 2 → r.fin = 45 ∧ r.out = []
  under : k + 2 ≤ 100 → r.fin = 0 ∧ r.exit = k ∧ (r.out.length : Int) = k + 1 ∧ ∀ (i : Nat) (v : Int), r.out.reverse[i]? = some v → v = i
set_option maxHeartbeats 4000000 in
set_option maxRecDepth 100000 in
theorem RtlrunCalls_tf (h : Hp) (seed : Int) (N : Nat) (hN : 6000 ≤ N) (law : ∀ k : Int, 97 ≤ k → k ≤ 100 → CallsOK k (runS (callsP k) N [] [] 5000)) : TF Try.prog 5 ⟨[.int .i64 seed]⟩ h (.bool true) h := by
  obtain ⟨r, hr, hr1⟩ : ∃ r, seed.tmod 4 = r ∧ (-3 ≤ r ∧ r ≤ 3) := ⟨_, rfl, by have := Int.tmod_lt_of_pos seed (b := 4) (by decide); have := Int.lt_tmod_of_pos seed (b := 4) (by decide); omega⟩
  obtain ⟨f, hf, hf1⟩ : ∃ f, (r + 4).tmod 4 = f ∧ (0 ≤ f ∧ f ≤ 3) := ⟨_, rfl, by have := Int.tmod_lt_of_pos (r + 4) (b := 4) (by decide); have := Int.tmod_nonneg 4 (show 0 ≤ r + 4 by omega); omega⟩
  refine TF.stillA (fn := Try.f5) (c := (Try.f5.body.getD .skip)) Try.func5 (by kernel_rfl) Try.ntmps5 (by kernel_rfl) (by simp) ?_
  conv => arg 2; whnf
  rw [show SH.of h = ⟨h, (SH.of h).π, 0, []⟩ from rfl]
  generalize (SH.of h).π = π0
  ((with_reducible apply W.seq); repeat (first | ((with_reducible apply RS.assign); exact rfl; exact rfl; exact rfl) | ((with_reducible apply RS.nil); exact mixed; kernel_rfl) | ((with_reducible apply W.reg); kernel_rfl) | ((with_reducible apply thenK_n))))
  ((with_reducible apply W.seq); repeat (fail))
  ((with_reducible apply W.seq); repeat (first | ((with_reducible apply RS.callB); exact rfl; exact rfl; exact rfl; exact fun H hH => (Fit_tf H); exact Nm_free (by simp)) | ((with_reducible apply RS.not); exact rfl; exact rfl; exact rfl) | ((with_reducible apply RS.nil); exact mixed; kernel_rfl) | ((with_reducible apply W.reg); kernel_rfl) | ((with_reducible apply W.skip)) | ((with_reducible apply W.condF); kernel_rfl; exact rfl) | ((with_reducible apply thenK_n))))
  ((with_reducible apply W.seq); repeat (first | ((with_reducible apply RS.remE); exact rfl; exact rfl; exact rfl; exact rfl; decide; exact hr) | ((with_reducible apply RS.remE); exact rfl; exact rfl; exact rfl; exact rfl; decide; exact hf) | ((with_reducible apply RS.move); exact rfl; exact rfl; exact rfl) | ((with_reducible apply RS.assign); exact rfl; exact rfl; exact rfl) | ((with_reducible apply RS.binFit); exact rfl; exact rfl; exact rfl; exact rfl; exact rfl; omega) | ((with_reducible apply RS.nil); exact mixed; kernel_rfl) | ((with_reducible apply W.reg); kernel_rfl) | ((with_reducible apply thenK_n))))
  obtain ⟨k, hk, hk1⟩ : ∃ k, f + 100 - 3 = k ∧ 97 ≤ k ∧ k ≤ 100 := ⟨_, rfl, by omega, by omega⟩
  rw [hk]
  ((with_reducible apply W.seq); repeat (first | ((with_reducible apply RS.callB); exact rfl; exact rfl; exact rfl; exact fun H hH => (N_tf _ H); exact Nm_free (by simp)) | ((with_reducible apply RS.callB); exact rfl; exact rfl; exact rfl; exact fun H hH => (R_tf _ H); exact Nm_free (by simp)) | ((with_reducible apply RS.buildSlice); exact rfl; exact rfl; exact rfl; exact rfl; exact rfl; exact rfl; exact rfl; exact rfl) | ((with_reducible apply RS.move); exact rfl; exact rfl; exact rfl) | ((with_reducible apply RS.store); exact rfl; exact rfl; exact rfl; exact rfl; exact rfl; exact Nat.le_of_ble_eq_true rfl; exact rfl; exact rfl; exact rfl) | ((with_reducible apply RS.alloc); exact rfl; exact rfl) | ((with_reducible apply RS.build); exact rfl; exact rfl; exact rfl; exact rfl) | ((with_reducible apply RS.nil); exact mixed; kernel_rfl) | ((with_reducible apply W.reg); kernel_rfl) | ((with_reducible apply thenK_n))))
  refine W.absorb fun B' hd hup hloc hn => ?_
  have m0 : B'.m (π0 0) = some ⟨⟨argsC [⟨-1, k⟩]⟩, 43⟩ := hloc 0 (by decide)
  have m1 : B'.m (π0 1) = some ⟨⟨insC { insZ with op := 28, ref := 1, args := [⟨-1, k⟩] } (some ⟨π0 0, 0, none⟩) 1⟩, 64⟩ := hloc 1 (by decide)
  have m2 : B'.m (π0 2) = some ⟨⟨blockC ⟨[{ insZ with op := 28, ref := 1, args := [⟨-1, k⟩] }], { termZ with kind := 3, a := ⟨0, 0⟩ }⟩ (some ⟨π0 1, 0, none⟩) 1⟩, 47⟩ := hloc 2 (by decide)
  have m4 : B'.m (π0 4) = some ⟨⟨[.int .i64 8, .int .i64 4]⟩, 3⟩ := hloc 4 (by decide)
  have m5 : B'.m (π0 5) = some ⟨⟨insC { insZ with op := 24, dst := 1 } none 0 ++ insC { insZ with op := 27, dst := -1, a := ⟨1, 0⟩, b := ⟨0, 0⟩, size := 8 } none 0⟩, 64⟩ := hloc 5 (by decide)
  have m6 : B'.m (π0 6) = some ⟨⟨argsC [⟨2, 0⟩]⟩, 43⟩ := hloc 6 (by decide)
  have m7 : B'.m (π0 7) = some ⟨⟨insC { insZ with op := 4, dst := 2, a := ⟨0, 0⟩, b := ⟨-1, 1⟩ } none 0 ++ insC { insZ with op := 28, dst := 2, ref := 1, args := [⟨2, 0⟩] } (some ⟨π0 6, 0, none⟩) 1⟩, 64⟩ := hloc 7 (by decide)
  have m8 : B'.m (π0 8) = some ⟨⟨insC { insZ with op := 26, dst := 3, a := ⟨1, 0⟩, size := 8 } none 0 ++ insC { insZ with op := 30, dst := -1, a := ⟨3, 0⟩ } none 0⟩, 64⟩ := hloc 8 (by decide)
  have m9 : B'.m (π0 9) = some ⟨⟨blockC b0P (some ⟨π0 5, 0, none⟩) 2 ++ (blockC b1P (some ⟨π0 7, 0, none⟩) 2 ++ blockC b2P (some ⟨π0 8, 0, none⟩) 2)⟩, 47⟩ := hloc 9 (by decide)
  have m10 : B'.m (π0 10) = some ⟨⟨funcC (f0P k) none 0 none 0 (some ⟨π0 2, 0, none⟩) 1 ++ funcC f1P (some ⟨π0 3, 0, none⟩) 1 (some ⟨π0 4, 0, none⟩) 2 (some ⟨π0 9, 0, none⟩) 3⟩, 35⟩ := hloc 10 (by decide)
  have m11 : B'.m (π0 11) = some ⟨⟨progC (callsP k) (some ⟨π0 10, 0, none⟩) 2 none 0⟩, 25⟩ := hloc 11 (by decide)
  have hp : ProgAt B' (π0 11) (callsP k) 25 (some ⟨π0 10, 0, none⟩) 2 none 0 := by
    refine ⟨m11, SlAt.two m10 rfl rfl ⟨none, 0, none, 0, _, 1, rfl, SlAt.nil, ?_⟩ ⟨_, 1, _, 2, _, 3, rfl, ?_, ?_⟩, SlAt.nil⟩
    · exact SlAt.one m2 (Nat.le_refl _) ⟨_, 1, rfl, SlAt.one m1 (Nat.le_refl _) ⟨_, 1, rfl, SlAt.one m0 (Nat.le_refl _) rfl⟩⟩
    · exact SlAt.two (c1 := [.int .i64 8]) (c2 := [.int .i64 4]) m4 rfl rfl rfl rfl
    · refine SlAt.three m9 rfl rfl rfl ⟨_, 2, rfl, ?_⟩ ⟨_, 2, rfl, ?_⟩ ⟨_, 2, rfl, ?_⟩
      · exact SlAt.two m5 rfl rfl ⟨none, 0, rfl, SlAt.nil⟩ ⟨none, 0, rfl, SlAt.nil⟩
      · exact SlAt.two m7 rfl rfl ⟨none, 0, rfl, SlAt.nil⟩ ⟨_, 1, rfl, SlAt.one m6 (Nat.le_refl _) rfl⟩
      · exact SlAt.two m8 rfl rfl ⟨none, 0, rfl, SlAt.nil⟩ ⟨none, 0, rfl, SlAt.nil⟩
  have hrun := Run_to B' hd (callsP k) (callsP_run k hk1) (Nat.zero_le _) (fun g hg => by cases hg) (π0 11) 25 _ _ _ _ hp none 0 0 none 0 0 [] [] InRow.none InRow.none 5000 (by decide) N (by omega)
  have hv := law k hk1.1 hk1.2
  generalize runS (callsP k) N [] [] 5000 = q at hrun hv
  clear hloc m0 m1 m2 m4 m5 m6 m7 m8 m9 m10 m11 hp
  obtain ⟨fin, exit, out, leaks, steps, fuel, data, stack, sp, deep⟩ := q
  obtain ⟨ho, hu⟩ := hv
  dsimp only at ho hu
  rw [show SH.of B' = ⟨B', (SH.of B').π, 0, []⟩ from rfl]
  generalize (SH.of B').π = π1
  by_cases hov : 100 < k + 2
  · obtain ⟨rfl, rfl⟩ := ho hov
    repeat (first | ((with_reducible apply (RS.callO (vs := []) [] 2)); exact rfl; exact rfl; exact hrun; exact rfl; exact rfl; exact trivial; exact trivial) | ((with_reducible apply RS.cmpT); exact rfl; exact rfl; exact rfl; exact rfl; exact rfl) | ((with_reducible apply RS.store); exact rfl; exact rfl; exact rfl; exact rfl; exact rfl; exact Nat.le_of_ble_eq_true rfl; exact rfl; exact res_one; exact rfl) | ((with_reducible apply RS.lenRow); exact rfl; exact rfl; exact rfl) | ((with_reducible apply RS.move); exact rfl; exact rfl; exact rfl) | ((with_reducible apply RS.assign); exact rfl; exact rfl; exact rfl) | ((with_reducible apply RS.pickT); exact rfl; exact rfl; exact rfl; exact rfl) | ((with_reducible apply RS.cmpT); exact rfl; exact rfl; exact rfl; exact rfl; (simp only [cmpP]; omega)) | ((with_reducible apply RS.binFit); exact rfl; exact rfl; exact rfl; exact rfl; exact rfl; omega) | ((with_reducible apply RS.fieldAddr); exact rfl; exact rfl; exact rfl) | ((with_reducible apply RS.load1); exact rfl; exact rfl; exact rfl; exact rfl; exact rfl; exact rfl) | ((with_reducible apply RS.alloc); exact rfl; exact rfl) | ((with_reducible apply RS.build); exact rfl; exact rfl; exact rfl; exact rfl) | ((with_reducible apply RS.nil); exact mixed; kernel_rfl) | ((with_reducible apply W.seq)) | ((with_reducible apply W.reg); kernel_rfl) | ((with_reducible apply W.ret)) | ((with_reducible apply W.condT); kernel_rfl; exact rfl) | ((with_reducible apply thenK_n)) | ((with_reducible apply thenK_r)))
    exact endsK_ret _ (.cons (.tmp rfl) .nil) ⟨hup, rfl⟩
  · obtain ⟨hfin, hex, hlen, hget⟩ := hu (by omega)
    clear ho hu
    rw [hfin, hex] at hrun
    have hne : out ≠ [] := by rintro rfl; simp at hlen; omega
    ((with_reducible apply W.seq); repeat (first | ((with_reducible apply (RS.callO (vs := []) [] 2)); exact rfl; exact rfl; exact hrun; exact rfl; exact rfl; exact trivial; exact trivial) | ((with_reducible apply RS.store); exact rfl; exact rfl; exact rfl; exact rfl; exact rfl; exact Nat.le_of_ble_eq_true rfl; exact rfl; exact res_one; exact rfl) | ((with_reducible apply RS.alloc); exact rfl; exact rfl) | ((with_reducible apply RS.build); exact rfl; exact rfl; exact rfl; exact rfl) | ((with_reducible apply RS.nil); exact mixed; kernel_rfl) | ((with_reducible apply W.reg); kernel_rfl) | ((with_reducible apply thenK_n))))
    refine W.absorb fun C hd2 hup2 hloc2 _ => ?_
    have q0 : C.m (π1 0) = rowBk intW 2 out := hloc2 0 (by decide)
    have q2 : C.m (π1 2) = some ⟨⟨[.int .i64 0, .int .i64 k, rowVl 1 (π1 0) out, rowVl 3 (π1 1) leaks, .int .i64 steps]⟩, 55⟩ := hloc2 2 (by decide)
    have hs := row_at (R := intR) (sz := 1) (fun _ => rfl) (fun _ => rfl) [] out q0
    rw [if_neg (by simpa using hne)] at hs
    rw [rowVl_eq 1 (π1 0) out, if_neg hne, if_neg hne] at q2
    have hcb := hd2 _ _ q2
    clear hloc2
    rw [show SH.of C = ⟨C, (SH.of C).π, 0, []⟩ from rfl]
    generalize (SH.of C).π = π2
    repeat (first | ((with_reducible apply RS.load1B); exact rfl; exact rfl; exact rfl; exact q2; exact hcb; exact rfl) | ((with_reducible apply RS.move); exact rfl; exact rfl; exact rfl) | ((with_reducible apply RS.cmpF); exact rfl; exact rfl; exact rfl; exact rfl; (simp only [cmpN]; omega)) | ((with_reducible apply RS.binFit); exact rfl; exact rfl; exact rfl; exact rfl; exact rfl; omega) | ((with_reducible apply RS.lenSl); exact rfl; exact rfl; exact rfl) | ((with_reducible apply RS.fieldAddr); exact rfl; exact rfl; exact rfl) | ((with_reducible apply RS.nil); exact mixed; kernel_rfl) | ((with_reducible apply W.seq)) | ((with_reducible apply W.reg); kernel_rfl) | ((with_reducible apply W.block)) | ((with_reducible apply W.skip)) | ((with_reducible apply W.condF); kernel_rfl; exact rfl) | ((with_reducible apply thenK_n)))
    refine W.loop (X := Nat) (fun π i => [(0, .int .i64 k), (4, .pointer (some ⟨π1 2, 0, none⟩)), (72, .slice (some ⟨π1 0, 0, none⟩) out.length (capOf 1)), (73, .int .i64 out.length), (74, .int .i64 i)]) (fun _ => C) (fun π i => []) (fun i => i ≤ out.length) (fun i => out.length - i) [] 0 (Nat.zero_le _) (by (refine FitL.mk ?_ ?_ ?_ ?_ <;> (repeat' (first | exact trivial | exact rfl | apply And.intro)); done)) ?_
    intro π i hI
    dsimp only at hI ⊢
    by_cases hlt : i < out.length
    · obtain ⟨x, hx⟩ : ∃ g, out.reverse[i]? = some g := ⟨_, List.getElem?_eq_getElem (by simpa using hlt)⟩
      have hxi := hget i x hx
      subst hxi
      obtain ⟨xb, xo, xcs, xe, hA, hX, hXl, hXv⟩ := hs.get i _ hx
      cases hA
      have hXn := hd2 _ _ hX
      have hXc := take_nth (j := 0) hXv rfl
      repeat (first | ((with_reducible apply RS.load1B); exact rfl; exact rfl; exact rfl; exact hX; exact hXn; exact hXc) | ((with_reducible apply RS.indexAddrS); exact rfl; exact rfl; exact rfl; exact rfl; exact rfl; omega) | ((with_reducible apply RS.cmpF); exact rfl; exact rfl; exact rfl; exact rfl; exact rfl) | ((with_reducible apply RS.move); exact rfl; exact rfl; exact rfl) | ((with_reducible apply RS.assign); exact rfl; exact rfl; exact rfl) | ((with_reducible apply RS.cmpT); exact rfl; exact rfl; exact rfl; exact rfl; (simp only [cmpP]; omega)) | ((with_reducible apply RS.add1); exact rfl; exact rfl; exact rfl; exact rfl; omega) | ((with_reducible apply RS.nil); exact mixed; kernel_rfl) | ((with_reducible apply W.seq)) | ((with_reducible apply W.reg); kernel_rfl) | ((with_reducible apply W.block)) | ((with_reducible apply W.skip)) | ((with_reducible apply W.condT); kernel_rfl; exact rfl) | ((with_reducible apply W.condF); kernel_rfl; exact rfl) | ((with_reducible apply thenK_n)) | ((with_reducible apply blockK_n)))
      exact roundK_n (i + 1) [] rfl rfl (by omega) (by omega) (by (refine FitL.mk ?_ ?_ ?_ ?_ <;> (repeat' (first | exact trivial | exact rfl | apply And.intro)); done))
    · repeat (first | ((with_reducible apply RS.load1B); exact rfl; exact rfl; exact rfl; exact q2; exact hcb; exact rfl) | ((with_reducible apply RS.cmpT); exact rfl; exact rfl; exact rfl; exact rfl; exact rfl) | ((with_reducible apply RS.move); exact rfl; exact rfl; exact rfl) | ((with_reducible apply RS.assign); exact rfl; exact rfl; exact rfl) | ((with_reducible apply RS.pickT); exact rfl; exact rfl; exact rfl; exact rfl) | ((with_reducible apply RS.cmpT); exact rfl; exact rfl; exact rfl; exact rfl; (simp only [cmpP]; omega)) | ((with_reducible apply RS.cmpF); exact rfl; exact rfl; exact rfl; exact rfl; (simp only [cmpN]; omega)) | ((with_reducible apply RS.binFit); exact rfl; exact rfl; exact rfl; exact rfl; exact rfl; omega) | ((with_reducible apply RS.lenSl); exact rfl; exact rfl; exact rfl) | ((with_reducible apply RS.fieldAddr); exact rfl; exact rfl; exact rfl) | ((with_reducible apply RS.nil); exact mixed; kernel_rfl) | ((with_reducible apply W.seq)) | ((with_reducible apply W.reg); kernel_rfl) | ((with_reducible apply W.exit)) | ((with_reducible apply W.ret)) | ((with_reducible apply W.condF); kernel_rfl; exact rfl) | ((with_reducible apply thenK_n)) | ((with_reducible apply thenK_e)) | ((with_reducible apply blockK_hit); exact rfl) | ((with_reducible apply roundK_e)))
      exact endsK_ret _ (.cons (.tmp rfl) .nil) ⟨fun i b hb => hup2 i b (hup i b hb), rfl⟩
end Go.Proofs.Ytjhloakacicdiaa
namespace Go.Proofs.Ytjhloakacicdiaa
open Go.AH
theorem storeV_get (d : List Int) (o : Nat) (v : Int) : ∀ n, o + n ≤ d.length → ∀ j, (storeV d o v n).getD j 0 = if o ≤ j ∧ j < o + n then storeByte v (j - o) else d.getD j 0 := by
  intro n
  induction n with
  | zero => intro _ j; rw [if_neg (by omega)]; rfl
  | succ n ih =>
    intro hn j
    rw [storeV, List.getD_eq_getElem?_getD, List.getElem?_set]
    by_cases hj : o + n = j
    · subst hj
      rw [if_pos rfl, if_pos (by rw [storeV_len]; omega), if_pos ⟨by omega, by omega⟩, show o + n - o = n by omega]; rfl
    · rw [if_neg hj, ← List.getD_eq_getElem?_getD, ih (by omega) j]
      by_cases hc : o ≤ j ∧ j < o + n
      · rw [if_pos hc, if_pos ⟨hc.1, by omega⟩]
      · rw [if_neg hc, if_neg (by omega)]
theorem loadV_congr {a b : List Int} {o q : Nat} : ∀ n, (∀ i, i < n → a.getD (o + i) 0 = b.getD (q + i) 0) → loadV a o n = loadV b q n := by
  intro n
  induction n with
  | zero => intro _; rfl
  | succ n ih => intro h; rw [loadV, loadV, ih fun i hi => h i (by omega), h n (by omega)]
def bytesN (v : Int) : List Int := (List.range 8).map (storeByte v)
theorem load_small : ∀ v : Fin 101, loadV (bytesN (v.val : Int)) 0 8 = (v.val : Int) := by decide +kernel
theorem load_store {a : List Int} {o v : Nat} (hv : v ≤ 100) (h : ∀ i, i < 8 → a.getD (o + i) 0 = storeByte (v : Int) i) : loadV a o 8 = (v : Int) := by
  rw [← load_small ⟨v, by omega⟩]
  refine loadV_congr 8 fun i hi => ?_
  rw [h i hi, Nat.zero_add]
  unfold bytesN
  rw [List.getD_eq_getElem?_getD, List.getElem?_map, List.getElem?_range hi]
  rfl
def S0 (o : List Int) (l : List LeakS) (st fu : Int) (stk : List Int) (sp de : Int) : RunS := { fin := 0, exit := 0, out := o, leaks := l, steps := st, fuel := fu, data := [], stack := stk, sp := sp, deep := de }
theorem step_go {o : List Int} {l : List LeakS} {st fu : Int} {stk : List Int} {sp de : Int} (h : st < fu) : stepS (S0 o l st fu stk sp de) = S0 o l (st + 1) fu stk sp de := by
  unfold stepS S0
  rw [if_pos rfl, if_neg (by show ¬ st ≥ fu; omega)]
theorem i64_id {n : Int} (h0 : -9223372036854775808 ≤ n) (h1 : n ≤ 9223372036854775807) : i64 n = n := wrap64_fit h0 h1
variable {p : ProgS} {cl : RunS → List Int → InsS → Int × RunS} {at_ : List Int} {o : List Int} {l : List LeakS} {st fu : Int} {stk : List Int} {sp de : Int}
theorem run_b0 (k a : Int) (hat : atOf at_ 0 = a) (h : st + 2 ≤ fu) (hl : stk.length = 416000) (ha : 133801728 ≤ a ∧ a + 8 ≤ 134217728) :
    runIns (insS p cl at_) b0P.ins (S0 o l st fu stk sp de) [k, 0, 0, 0] = (S0 o (⟨3, a, 0⟩ :: l) (st + 2) fu (storeV stk (a - 133801728).toNat k 8) sp de, [k, a, 0, 0]) := by
  have e1 : insS p cl at_ (S0 o l st fu stk sp de) [k, 0, 0, 0] { insZ with op := 24, dst := 1 } = (S0 o l (st + 1) fu stk sp de, [k, a, 0, 0]) := by
    unfold insS
    rw [step_go (by omega)]
    simp [S0, insZ, twoS, hat, setReg, i64_id (show -9223372036854775808 ≤ a by omega) (by omega)]
  have e2 : insS p cl at_ (S0 o l (st + 1) fu stk sp de) [k, a, 0, 0] { insZ with op := 27, dst := -1, a := ⟨1, 0⟩, b := ⟨0, 0⟩, size := 8 } = (S0 o (⟨3, a, 0⟩ :: l) (st + 2) fu (storeV stk (a - 133801728).toNat k 8) sp de, [k, a, 0, 0]) := by
    unfold insS
    rw [step_go (by omega)]
    simp [S0, insZ, twoS, argS, i64_id (show -9223372036854775808 ≤ a by omega) (by omega), storeS, inData, inStack, hl, leakS]
    rw [if_neg (by omega), if_pos (by omega), Int.add_assoc]; rfl
  show runIns (insS p cl at_) [{ insZ with op := 24, dst := 1 }, { insZ with op := 27, dst := -1, a := ⟨1, 0⟩, b := ⟨0, 0⟩, size := 8 }] _ _ = _
  rw [runIns, e1, if_pos (show (S0 o l (st + 1) fu stk sp de).fin = 0 from rfl), runIns]
  dsimp only
  rw [e2, if_pos (show (S0 o (⟨3, a, 0⟩ :: l) (st + 2) fu (storeV stk (a - 133801728).toNat k 8) sp de).fin = 0 from rfl), runIns]
theorem run_b1 (k a : Int) (hk : 1 ≤ k ∧ k ≤ 100) (h : st + 2 ≤ fu) {v : Int} {s' : RunS} (hc : cl (S0 o l (st + 2) fu stk sp de) [k, a, k - 1, 0] { insZ with op := 28, dst := 2, ref := 1, args := [⟨2, 0⟩] } = (v, s')) (hs : s'.fin = 0) :
    runIns (insS p cl at_) b1P.ins (S0 o l st fu stk sp de) [k, a, 0, 0] = (s', [k, a, v, 0]) := by
  have e1 : insS p cl at_ (S0 o l st fu stk sp de) [k, a, 0, 0] { insZ with op := 4, dst := 2, a := ⟨0, 0⟩, b := ⟨-1, 1⟩ } = (S0 o l (st + 1) fu stk sp de, [k, a, k - 1, 0]) := by
    unfold insS
    rw [step_go (by omega)]
    simp [S0, twoS, reckonS, argS, setReg, i64_id (show -9223372036854775808 ≤ k - 1 by omega) (by omega)]
  have e2 : insS p cl at_ (S0 o l (st + 1) fu stk sp de) [k, a, k - 1, 0] { insZ with op := 28, dst := 2, ref := 1, args := [⟨2, 0⟩] } = (s', [k, a, v, 0]) := by
    unfold insS
    rw [step_go (by omega), Int.add_assoc]
    rw [if_pos (show (S0 o l (st + (1 + 1)) fu stk sp de).fin = 0 from rfl), if_neg (by decide), if_neg (by decide), if_neg (by decide), if_neg (by decide), if_neg (by decide), if_neg (by decide), if_neg (by decide), if_neg (by decide), if_neg (by decide)]
    rw [show st + (1 + 1) = st + 2 from rfl, hc]
    rfl
  show runIns (insS p cl at_) [{ insZ with op := 4, dst := 2, a := ⟨0, 0⟩, b := ⟨-1, 1⟩ }, { insZ with op := 28, dst := 2, ref := 1, args := [⟨2, 0⟩] }] _ _ = _
  rw [runIns, e1, if_pos (show (S0 o l (st + 1) fu stk sp de).fin = 0 from rfl), runIns]
  dsimp only
  rw [e2, if_pos hs, runIns]
theorem run_b1x (k a : Int) (hk : 1 ≤ k ∧ k ≤ 100) (h : st + 2 ≤ fu) {v : Int} {s' : RunS} (hc : cl (S0 o l (st + 2) fu stk sp de) [k, a, k - 1, 0] { insZ with op := 28, dst := 2, ref := 1, args := [⟨2, 0⟩] } = (v, s')) (hs : ¬ s'.fin = 0) :
    runIns (insS p cl at_) b1P.ins (S0 o l st fu stk sp de) [k, a, 0, 0] = (s', [k, a, v, 0]) := by
  have e1 : insS p cl at_ (S0 o l st fu stk sp de) [k, a, 0, 0] { insZ with op := 4, dst := 2, a := ⟨0, 0⟩, b := ⟨-1, 1⟩ } = (S0 o l (st + 1) fu stk sp de, [k, a, k - 1, 0]) := by
    unfold insS
    rw [step_go (by omega)]
    simp [S0, twoS, reckonS, argS, setReg, i64_id (show -9223372036854775808 ≤ k - 1 by omega) (by omega)]
  have e2 : insS p cl at_ (S0 o l (st + 1) fu stk sp de) [k, a, k - 1, 0] { insZ with op := 28, dst := 2, ref := 1, args := [⟨2, 0⟩] } = (s', [k, a, v, 0]) := by
    unfold insS
    rw [step_go (by omega), Int.add_assoc]
    rw [if_pos (show (S0 o l (st + (1 + 1)) fu stk sp de).fin = 0 from rfl), if_neg (by decide), if_neg (by decide), if_neg (by decide), if_neg (by decide), if_neg (by decide), if_neg (by decide), if_neg (by decide), if_neg (by decide), if_neg (by decide)]
    rw [show st + (1 + 1) = st + 2 from rfl, hc]
    rfl
  show runIns (insS p cl at_) [{ insZ with op := 4, dst := 2, a := ⟨0, 0⟩, b := ⟨-1, 1⟩ }, { insZ with op := 28, dst := 2, ref := 1, args := [⟨2, 0⟩] }] _ _ = _
  rw [runIns, e1, if_pos (show (S0 o l (st + 1) fu stk sp de).fin = 0 from rfl), runIns]
  dsimp only
  rw [e2, if_neg hs]
theorem run_b2 (k a v : Int) (n : Int) (ho : o.length < 10000) (h : st + 2 ≤ fu) (hl : stk.length = 416000) (ha : 133801728 ≤ a ∧ a + 8 ≤ 134217728) (hv : loadV stk (a - 133801728).toNat 8 = n) :
    runIns (insS p cl at_) b2P.ins (S0 o l st fu stk sp de) [k, a, v, 0] = (S0 (n :: o) (⟨2, a, 0⟩ :: l) (st + 2) fu stk sp de, [k, a, v, n]) := by
  have e1 : insS p cl at_ (S0 o l st fu stk sp de) [k, a, v, 0] { insZ with op := 26, dst := 3, a := ⟨1, 0⟩, size := 8 } = (S0 o (⟨2, a, 0⟩ :: l) (st + 1) fu stk sp de, [k, a, v, n]) := by
    have e : loadS (S0 o l (st + 1) fu stk sp de) a 8 false = (n, S0 o (⟨2, a, 0⟩ :: l) (st + 1) fu stk sp de) := by
      unfold loadS
      rw [if_neg (by unfold inData S0; show ¬ (65536 ≤ a ∧ a ≤ 65536 + ((0 : Nat) : Int) - ((8 : Nat) : Int)); omega), if_pos (by unfold inStack S0; show 134217728 - (stk.length : Int) ≤ a ∧ a ≤ 134217728 - ((8 : Nat) : Int); omega)]
      show (widenS (loadV stk (a - (134217728 - (stk.length : Int))).toNat 8) 8 false, _) = _
      rw [hl, show (134217728 - ((416000 : Nat) : Int)) = 133801728 from rfl, hv]
      rfl
    unfold insS
    rw [step_go (by omega)]
    rw [if_pos (show (S0 o l (st + 1) fu stk sp de).fin = 0 from rfl), if_neg (by decide), if_neg (by decide), if_neg (by decide), if_neg (by decide), if_neg (by decide), if_neg (by decide), if_pos (by decide)]
    have e3 : i64 (argS [k, a, v, 0] ⟨1, 0⟩ + (0 : Int)) = a := by
      show i64 (a + 0) = a
      rw [Int.add_zero]; exact i64_id (by omega) (by omega)
    show ((loadS (S0 o l (st + 1) fu stk sp de) (i64 (argS [k, a, v, 0] ⟨1, 0⟩ + (0 : Int))) 8 false).2, setReg [k, a, v, 0] 3 (loadS (S0 o l (st + 1) fu stk sp de) (i64 (argS [k, a, v, 0] ⟨1, 0⟩ + (0 : Int))) 8 false).1) = _
    rw [e3, e]
    rfl
  have e2 : insS p cl at_ (S0 o (⟨2, a, 0⟩ :: l) (st + 1) fu stk sp de) [k, a, v, n] { insZ with op := 30, dst := -1, a := ⟨3, 0⟩ } = (S0 (n :: o) (⟨2, a, 0⟩ :: l) (st + 2) fu stk sp de, [k, a, v, n]) := by
    unfold insS
    rw [step_go (by omega), Int.add_assoc]
    rw [if_pos (show (S0 o (⟨2, a, 0⟩ :: l) (st + (1 + 1)) fu stk sp de).fin = 0 from rfl), if_neg (by decide), if_neg (by decide), if_neg (by decide), if_neg (by decide), if_neg (by decide), if_neg (by decide), if_neg (by decide), if_neg (by decide), if_pos (by decide), if_neg (by show ¬ o.length = 10000; omega)]
    rfl
  show runIns (insS p cl at_) [{ insZ with op := 26, dst := 3, a := ⟨1, 0⟩, size := 8 }, { insZ with op := 30, dst := -1, a := ⟨3, 0⟩ }] _ _ = _
  rw [runIns, e1, if_pos (show (S0 o (⟨2, a, 0⟩ :: l) (st + 1) fu stk sp de).fin = 0 from rfl), runIns]
  dsimp only
  rw [e2, if_pos (show (S0 (n :: o) (⟨2, a, 0⟩ :: l) (st + 2) fu stk sp de).fin = 0 from rfl), runIns]
theorem tail_b0 {I : RunS → List Int → InsS → RunS × List Int} (q : Nat) (k a : Int) (h : st + 1 ≤ fu) : tailB I f1P q b0P (S0 o l st fu stk sp de, [k, a, 0, 0]) = if k = 0 then blocksS I f1P q 2 (S0 o (leakB true :: l) (st + 1) fu stk sp de) [k, a, 0, 0] else blocksS I f1P q 1 (S0 o (leakB false :: l) (st + 1) fu stk sp de) [k, a, 0, 0] := by
  unfold tailB
  rw [if_pos (show (S0 o l st fu stk sp de).fin = 0 from rfl), step_go (by omega), if_pos (show (S0 o l (st + 1) fu stk sp de).fin = 0 from rfl), if_neg (by decide), if_neg (by decide)]
  have e : holdsS b0P.term.op (argS [k, a, 0, 0] b0P.term.a) (argS [k, a, 0, 0] b0P.term.b) = (k == 0) := rfl
  dsimp only
  rw [e]
  by_cases hk : k = 0
  · rw [if_pos hk, if_pos (by simpa using hk)]; rfl
  · rw [if_neg hk, if_neg (by simpa using hk)]; rfl
theorem tail_b1 {I : RunS → List Int → InsS → RunS × List Int} (q : Nat) (rg : List Int) (h : st + 1 ≤ fu) : tailB I f1P q b1P (S0 o l st fu stk sp de, rg) = blocksS I f1P q 2 (S0 o l (st + 1) fu stk sp de) rg := by
  unfold tailB
  rw [if_pos (show (S0 o l st fu stk sp de).fin = 0 from rfl), step_go (by omega), if_pos (show (S0 o l (st + 1) fu stk sp de).fin = 0 from rfl), if_neg (by decide), if_pos (by decide)]
  rfl
theorem tail_b2 {I : RunS → List Int → InsS → RunS × List Int} (q : Nat) (k a v n : Int) (h : st + 1 ≤ fu) : tailB I f1P q b2P (S0 o l st fu stk sp de, [k, a, v, n]) = (n, S0 o l (st + 1) fu stk sp de, [k, a, v, n]) := by
  unfold tailB
  rw [if_pos (show (S0 o l st fu stk sp de).fin = 0 from rfl), step_go (by omega), if_pos (show (S0 o l (st + 1) fu stk sp de).fin = 0 from rfl), if_pos (by decide)]
  rfl
def outs : Nat → List Int
  | 0 => [0]
  | k + 1 => ((k + 1 : Nat) : Int) :: outs k
theorem call_one (K : Int) (M : Nat) (k : Nat) (hk : k ≤ 100) (d : Nat) (h1 : 133801728 + 16 ≤ sp) (h2 : sp ≤ 134217728) (hl : stk.length = 416000) (hst : st + 9 ≤ fu) (hde : 0 ≤ de ∧ de + 1 ≤ 100) (hso : o.length < 10000)
    (o2 : List Int) (l2 : List LeakS) (st2 : Int) (stk2 : List Int) (hin : k ≠ 0 → callK (callsP K) (M + 3) d (S0 o (leakB false :: ⟨3, sp - 8, 0⟩ :: l) (st + 5) fu (storeV stk (sp - 8 - 133801728).toNat k 8) (sp - 16) (de + 1)) 1 [(k : Int) - 1] = ((k : Int) - 1, S0 o2 l2 st2 fu stk2 (sp - 16) (de + 1)))
    (h0 : k = 0 → o2 = o ∧ st2 = st + 2 ∧ stk2 = storeV stk (sp - 8 - 133801728).toNat k 8) (hs2 : st2 + 4 ≤ fu) (ho2 : o2.length < 10000) (hl2 : stk2.length = 416000) (hkeep : ∀ i, i < 8 → stk2.getD ((sp - 8 - 133801728).toNat + i) 0 = storeByte (k : Int) i) :
    ∃ l', callK (callsP K) (M + 3) (d + 1) (S0 o l st fu stk sp de) 1 [(k : Int)] = ((k : Int), S0 ((k : Int) :: o2) l' (st2 + 4) fu stk2 sp de) := by
  have z4 : slotSz 4 = 8 := by decide +kernel
  have z8 : slotSz 8 = 8 := by decide +kernel
  have hsp1 : spAt sp [8, 4] 1 = sp - 8 := by
    show IntKind.i64.wrap (sp - slotSz 8) = _
    rw [z8, wrap64_fit (by omega) (by omega)]
  have hsp2 : spAt sp [8, 4] 2 = sp - 16 := by
    show IntKind.i64.wrap (spAt sp [8, 4] 1 - slotSz 4) = _
    rw [hsp1, z4, wrap64_fit (by omega) (by omega)]; omega
  have hat : atOf (rowAt sp [8, 4] 2) 0 = sp - 8 := by
    show spAt sp [8, 4] 1 = _
    exact hsp1
  have hdn : spDone (S0 o l st fu stk sp de) f1P = S0 o l st fu stk (sp - 16) (de + 1) := by
    show S0 o l st fu stk (spAt sp [8, 4] 2) (de + 1) = _
    rw [hsp2]
  have main : ∃ l' rg, blocksS (insS (callsP K) (callsS (callsP K) (callK (callsP K) (M + 3) d)) (rowAt sp [8, 4] 2)) f1P (M + 3) 0 (S0 o l st fu stk (sp - 16) (de + 1)) [(k : Int), 0, 0, 0] = ((k : Int), S0 ((k : Int) :: o2) l' (st2 + 4) fu stk2 (sp - 16) (de + 1), rg) := by
    have hb2 : ∀ (l3 : List LeakS) (v : Int) (q : Nat), ∃ l' rg, blocksS (insS (callsP K) (callsS (callsP K) (callK (callsP K) (M + 3) d)) (rowAt sp [8, 4] 2)) f1P (q + 1) 2 (S0 o2 l3 (st2 + 1) fu stk2 (sp - 16) (de + 1)) [(k : Int), sp - 8, v, 0] = ((k : Int), S0 ((k : Int) :: o2) l' (st2 + 4) fu stk2 (sp - 16) (de + 1), rg) := by
      intro l3 v q
      rw [blocksS_tail _ f1P q 2 _ _ rfl b2P rfl, run_b2 (k : Int) (sp - 8) v (k : Int) ho2 (by omega) hl2 (by omega) (load_store hk hkeep), tail_b2 q _ _ _ _ (by omega)]
      exact ⟨_, _, by rw [show st2 + 1 + 2 + 1 = st2 + 4 by omega]⟩
    rw [blocksS_tail _ f1P (M + 2) 0 _ _ rfl b0P rfl, run_b0 (k : Int) (sp - 8) hat (by omega) hl (by omega), tail_b0 (M + 2) _ _ (by omega)]
    by_cases hz : k = 0
    · obtain ⟨rfl, rfl, rfl⟩ := h0 hz
      rw [if_pos (by omega)]
      exact hb2 _ 0 (M + 1)
    · rw [if_neg (by omega)]
      have hc := hin hz
      rw [blocksS_tail _ f1P (M + 1) 1 _ _ rfl b1P rfl, run_b1 (k : Int) (sp - 8) (by omega) (by omega) (v := (k : Int) - 1) (s' := S0 o2 l2 st2 fu stk2 (sp - 16) (de + 1)) (by
        show callsS (callsP K) (callK (callsP K) (M + 3) d) (S0 o (leakB false :: ⟨3, sp - 8, 0⟩ :: l) (st + 2 + 1 + 2) fu (storeV stk (sp - 8 - 133801728).toNat k 8) (sp - 16) (de + 1)) [(k : Int), sp - 8, (k : Int) - 1, 0] { insZ with op := 28, dst := 2, ref := 1, args := [⟨2, 0⟩] } = _
        rw [show st + 2 + 1 + 2 = st + 5 by omega]
        unfold callsS
        rw [if_neg (by decide)]
        exact hc) rfl, tail_b1 (M + 1) _ (by omega)]
      exact hb2 _ _ M
  obtain ⟨l', rg, main⟩ := main
  refine ⟨l', ?_⟩
  rw [callK, if_neg (by show ¬ 100 < de + 1; omega), show (callsP K).funcs[(1 : Int).toNat]? = some f1P from rfl]
  dsimp only
  rw [hdn]
  show ((blocksS (insS (callsP K) (callsS (callsP K) (callK (callsP K) (M + 3) d)) (rowAt sp [8, 4] 2)) f1P (M + 3) 0 (S0 o l st fu stk (sp - 16) (de + 1)) [(k : Int), 0, 0, 0]).1, { (blocksS (insS (callsP K) (callsS (callsP K) (callK (callsP K) (M + 3) d)) (rowAt sp [8, 4] 2)) f1P (M + 3) 0 (S0 o l st fu stk (sp - 16) (de + 1)) [(k : Int), 0, 0, 0]).2.1 with sp := sp, deep := (blocksS (insS (callsP K) (callsS (callsP K) (callK (callsP K) (M + 3) d)) (rowAt sp [8, 4] 2)) f1P (M + 3) 0 (S0 o l st fu stk (sp - 16) (de + 1)) [(k : Int), 0, 0, 0]).2.1.deep - 1 }) = _
  rw [main]
  show (_, S0 _ _ _ _ _ sp (de + 1 - 1)) = _
  rw [Int.add_sub_cancel]
  rfl
theorem f_call (K : Int) (M : Nat) : ∀ k : Nat, k ≤ 100 → ∀ (d : Nat) (o : List Int) (l : List LeakS) (st fu : Int) (stk : List Int) (sp de : Int), k + 1 ≤ d → stk.length = 416000 → 133801728 + 16 * ((k : Int) + 1) ≤ sp → sp ≤ 134217728 → st + 9 * ((k : Int) + 1) ≤ fu → 0 ≤ de → de + k + 1 ≤ 100 → o.length + k + 1 ≤ 10000 →
    ∃ stk' l' st', callK (callsP K) (M + 3) d (S0 o l st fu stk sp de) 1 [(k : Int)] = ((k : Int), S0 (outs k ++ o) l' st' fu stk' sp de) ∧ stk'.length = 416000 ∧ st' ≤ st + 9 * ((k : Int) + 1) ∧ ∀ j, (sp - 133801728).toNat ≤ j → stk'.getD j 0 = stk.getD j 0 := by
  intro k
  induction k with
  | zero =>
    intro _ d o l st fu stk sp de hd hl h1 h2 hst hde hdp ho
    obtain ⟨d, rfl⟩ : ∃ e, d = e + 1 := ⟨d - 1, by omega⟩
    have hstl : (storeV stk (sp - 8 - 133801728).toNat ((0 : Nat) : Int) 8).length = 416000 := by rw [storeV_len, hl]
    have hg := storeV_get stk (sp - 8 - 133801728).toNat ((0 : Nat) : Int) 8 (by omega)
    obtain ⟨l', h⟩ := call_one (sp := sp) (stk := stk) (st := st) (fu := fu) (de := de) (o := o) (l := l) K M 0 (by omega) d (by omega) h2 hl (by omega) ⟨hde, by omega⟩ (by omega) o [] (st + 2) _ (fun h => absurd rfl h) (fun _ => ⟨rfl, rfl, rfl⟩) (by omega) (by omega) hstl (fun i hi => by rw [hg, if_pos (by omega), Nat.add_sub_cancel_left])
    exact ⟨_, l', _, h, hstl, by omega, fun j hj => by rw [hg, if_neg (by omega)]⟩
  | succ k ih =>
    intro hk d o l st fu stk sp de hd hl h1 h2 hst hde hdp ho
    obtain ⟨d, rfl⟩ : ∃ e, d = e + 1 := ⟨d - 1, by omega⟩
    have hstl : (storeV stk (sp - 8 - 133801728).toNat ((k + 1 : Nat) : Int) 8).length = 416000 := by rw [storeV_len, hl]
    have hg := storeV_get stk (sp - 8 - 133801728).toNat ((k + 1 : Nat) : Int) 8 (by omega)
    obtain ⟨stk2, l2, st2, e, e2, e3, e4⟩ := ih (by omega) d o (leakB false :: ⟨3, sp - 8, 0⟩ :: l) (st + 5) fu (storeV stk (sp - 8 - 133801728).toNat ((k + 1 : Nat) : Int) 8) (sp - 16) (de + 1) (by omega) hstl (by omega) (by omega) (by omega) (by omega) (by omega) (by omega)
    have hol : (outs k ++ o).length < 10000 := by
      have : ∀ k, (outs k).length = k + 1 := by intro k; induction k with | zero => rfl | succ k ih => rw [outs, List.length_cons, ih]
      rw [List.length_append, this]; omega
    obtain ⟨l', h⟩ := call_one (sp := sp) (stk := stk) (st := st) (fu := fu) (de := de) (o := o) (l := l) K M (k + 1) hk d (by omega) h2 hl (by omega) ⟨hde, by omega⟩ (by omega) (outs k ++ o) l2 st2 stk2 (fun _ => by
      rw [show ((k + 1 : Nat) : Int) - 1 = (k : Int) by omega]; exact e) (fun h => absurd h (by omega)) (by omega) hol e2 (fun i hi => by rw [e4 _ (by omega), hg, if_pos (by omega), Nat.add_sub_cancel_left])
    exact ⟨_, l', _, h, e2, by omega, fun j hj => by rw [e4 j (by omega), hg, if_neg (by omega)]⟩
theorem sp_facts (h1 : 133801728 + 16 ≤ sp) (h2 : sp ≤ 134217728) : spAt sp [8, 4] 2 = sp - 16 ∧ atOf (rowAt sp [8, 4] 2) 0 = sp - 8 := by
  have z4 : slotSz 4 = 8 := by decide +kernel
  have z8 : slotSz 8 = 8 := by decide +kernel
  have hsp1 : spAt sp [8, 4] 1 = sp - 8 := by
    show IntKind.i64.wrap (sp - slotSz 8) = _
    rw [z8, wrap64_fit (by omega) (by omega)]
  refine ⟨?_, hsp1⟩
  show IntKind.i64.wrap (spAt sp [8, 4] 1 - slotSz 4) = _
  rw [hsp1, z4, wrap64_fit (by omega) (by omega)]; omega
theorem f_over (K : Int) (M : Nat) : ∀ k : Nat, k ≤ 100 → ∀ (d : Nat) (o : List Int) (l : List LeakS) (st fu : Int) (stk : List Int) (sp de : Int), 101 ≤ de + d → stk.length = 416000 → 133801728 + 16 * (101 - de) ≤ sp → sp ≤ 134217728 → st + 9 * ((k : Int) + 1) ≤ fu → 0 ≤ de → de ≤ 100 → 100 < de + k + 1 →
    (callK (callsP K) (M + 3) d (S0 o l st fu stk sp de) 1 [(k : Int)]).2.fin = 45 ∧ (callK (callsP K) (M + 3) d (S0 o l st fu stk sp de) 1 [(k : Int)]).2.out = o := by
  intro k
  induction k with
  | zero =>
    intro _ d o l st fu stk sp de hd hl h1 h2 hst hde hde2 hdp
    obtain ⟨d, rfl⟩ : ∃ e, d = e + 1 := ⟨d - 1, by omega⟩
    rw [callK, if_pos (by show 100 < de + 1; omega)]
    exact ⟨rfl, rfl⟩
  | succ k ih =>
    intro hk d o l st fu stk sp de hd hl h1 h2 hst hde hde2 hdp
    obtain ⟨d, rfl⟩ : ∃ e, d = e + 1 := ⟨d - 1, by omega⟩
    by_cases hov : 100 < de + 1
    · rw [callK, if_pos (by show 100 < de + 1; omega)]
      exact ⟨rfl, rfl⟩
    · obtain ⟨hsp2, hat⟩ := sp_facts (sp := sp) (by omega) h2
      have hstl : (storeV stk (sp - 8 - 133801728).toNat ((k + 1 : Nat) : Int) 8).length = 416000 := by rw [storeV_len, hl]
      obtain ⟨e1, e2⟩ := ih (by omega) d o (leakB false :: ⟨3, sp - 8, 0⟩ :: l) (st + 5) fu (storeV stk (sp - 8 - 133801728).toNat ((k + 1 : Nat) : Int) 8) (sp - 16) (de + 1) (by omega) hstl (by omega) (by omega) (by omega) (by omega) (by omega) (by omega)
      rw [show (k : Int) = ((k + 1 : Nat) : Int) - 1 by omega] at e1 e2
      generalize hr : callK (callsP K) (M + 3) d (S0 o (leakB false :: ⟨3, sp - 8, 0⟩ :: l) (st + 5) fu (storeV stk (sp - 8 - 133801728).toNat ((k + 1 : Nat) : Int) 8) (sp - 16) (de + 1)) 1 [((k + 1 : Nat) : Int) - 1] = r at e1 e2
      have hdn : spDone (S0 o l st fu stk sp de) f1P = S0 o l st fu stk (sp - 16) (de + 1) := by
        show S0 o l st fu stk (spAt sp [8, 4] 2) (de + 1) = _
        rw [hsp2]
      have main : (blocksS (insS (callsP K) (callsS (callsP K) (callK (callsP K) (M + 3) d)) (rowAt sp [8, 4] 2)) f1P (M + 3) 0 (S0 o l st fu stk (sp - 16) (de + 1)) [((k + 1 : Nat) : Int), 0, 0, 0]).2.1 = r.2 := by
        rw [blocksS_tail _ f1P (M + 2) 0 _ _ rfl b0P rfl, run_b0 ((k + 1 : Nat) : Int) (sp - 8) hat (by omega) hl (by omega), tail_b0 (M + 2) _ _ (by omega), if_neg (by omega)]
        rw [blocksS_tail _ f1P (M + 1) 1 _ _ rfl b1P rfl, run_b1x ((k + 1 : Nat) : Int) (sp - 8) (by omega) (by omega) (v := r.1) (s' := r.2) (by
          show callsS (callsP K) (callK (callsP K) (M + 3) d) (S0 o (leakB false :: ⟨3, sp - 8, 0⟩ :: l) (st + 2 + 1 + 2) fu (storeV stk (sp - 8 - 133801728).toNat ((k + 1 : Nat) : Int) 8) (sp - 16) (de + 1)) [((k + 1 : Nat) : Int), sp - 8, ((k + 1 : Nat) : Int) - 1, 0] { insZ with op := 28, dst := 2, ref := 1, args := [⟨2, 0⟩] } = _
          rw [show st + 2 + 1 + 2 = st + 5 by omega]
          unfold callsS
          rw [if_neg (by decide)]
          exact hr) (by rw [e1]; decide)]
        unfold tailB
        rw [if_neg (by rw [e1]; decide)]
      rw [callK, if_neg (by show ¬ 100 < de + 1; omega), show (callsP K).funcs[(1 : Int).toNat]? = some f1P from rfl]
      dsimp only
      rw [hdn]
      constructor
      · show (blocksS (insS (callsP K) (callsS (callsP K) (callK (callsP K) (M + 3) d)) (rowAt sp [8, 4] 2)) f1P (M + 3) 0 (S0 o l st fu stk (sp - 16) (de + 1)) [((k + 1 : Nat) : Int), 0, 0, 0]).2.1.fin = 45
        rw [main, e1]
      · show (blocksS (insS (callsP K) (callsS (callsP K) (callK (callsP K) (M + 3) d)) (rowAt sp [8, 4] 2)) f1P (M + 3) 0 (S0 o l st fu stk (sp - 16) (de + 1)) [((k + 1 : Nat) : Int), 0, 0, 0]).2.1.out = o
        rw [main, e2]
end Go.Proofs.Ytjhloakacicdiaa
namespace Go.Proofs.Ytjhloakacicdiaa
open Go.AH
theorem outs_len : ∀ k, (outs k).length = k + 1 := by
  intro k
  induction k with
  | zero => rfl
  | succ k ih => rw [outs, List.length_cons, ih]
theorem outs_get : ∀ (k i : Nat) (v : Int), (outs k).reverse[i]? = some v → v = i := by
  intro k
  induction k with
  | zero =>
    intro i v h
    cases i with
    | zero => simp [outs] at h; omega
    | succ i => simp [outs] at h
  | succ k ih =>
    intro i v h
    rw [outs, List.reverse_cons] at h
    by_cases hi : i < (outs k).reverse.length
    · rw [List.getElem?_append_left hi] at h; exact ih i v h
    · rw [List.getElem?_append_right (by omega)] at h
      rw [List.length_reverse, outs_len] at hi h
      by_cases h0 : i - (k + 1) = 0
      · rw [h0] at h
        simp at h
        omega
      · obtain ⟨j, hj⟩ : ∃ j, i - (k + 1) = j + 1 := ⟨i - (k + 1) - 1, by omega⟩
        rw [hj] at h; simp at h
theorem calls_law (M : Nat) (k : Int) (h1 : 97 ≤ k) (h2 : k ≤ 100) : CallsOK k (runS (callsP k) (M + 3) [] [] 5000) := by
  obtain ⟨n, rfl⟩ : ∃ n : Nat, k = n := ⟨k.toNat, by omega⟩
  unfold runS
  generalize hstk : List.replicate 416000 (0 : Int) = stk
  have hl : stk.length = 416000 := by rw [← hstk]; exact List.length_replicate
  clear hstk
  show CallsOK n (endS (callK (callsP n) (M + 3) 101 (S0 [] [] 0 5000 stk 134217728 0) 0 []))
  generalize hr : callK (callsP n) (M + 3) 100 (S0 [] [] 1 5000 stk 134217728 1) 1 [(n : Int)] = r
  have hins : insS (callsP n) (callsS (callsP n) (callK (callsP n) (M + 3) 100)) [] (S0 [] [] 0 5000 stk 134217728 1) [0] { insZ with op := 28, ref := 1, args := [⟨-1, (n : Int)⟩] } = (r.2, [r.1]) := by
    unfold insS
    rw [step_go (by decide), if_pos (show (S0 [] [] (0 + 1) 5000 stk 134217728 1).fin = 0 from rfl), if_neg (by show ¬ ((28 : Int) = 1 ∨ (28 : Int) = 2); decide), if_neg (by show ¬ twoS 28 = true; decide), if_neg (by show ¬ (28 : Int) = 22; decide), if_neg (by show ¬ (28 : Int) = 23; decide), if_neg (by show ¬ (28 : Int) = 24; decide), if_neg (by show ¬ (28 : Int) = 25; decide), if_neg (by show ¬ (28 : Int) = 26; decide), if_neg (by show ¬ (28 : Int) = 27; decide), if_neg (by show ¬ (28 : Int) = 30; decide)]
    have : callsS (callsP n) (callK (callsP n) (M + 3) 100) (S0 [] [] (0 + 1) 5000 stk 134217728 1) [0] { insZ with op := 28, ref := 1, args := [⟨-1, (n : Int)⟩] } = r := by
      unfold callsS
      rw [if_neg (by show ¬ (28 : Int) = 29; decide)]
      exact hr
    rw [this]
    rfl
  have hcall : callK (callsP n) (M + 3) 101 (S0 [] [] 0 5000 stk 134217728 0) 0 [] = ((tailB (insS (callsP n) (callsS (callsP n) (callK (callsP n) (M + 3) 100)) []) (f0P n) (M + 2) ⟨[{ insZ with op := 28, ref := 1, args := [⟨-1, (n : Int)⟩] }], { termZ with kind := 3, a := ⟨0, 0⟩ }⟩ (r.2, [r.1])).1, { (tailB (insS (callsP n) (callsS (callsP n) (callK (callsP n) (M + 3) 100)) []) (f0P n) (M + 2) ⟨[{ insZ with op := 28, ref := 1, args := [⟨-1, (n : Int)⟩] }], { termZ with kind := 3, a := ⟨0, 0⟩ }⟩ (r.2, [r.1])).2.1 with sp := 134217728, deep := (tailB (insS (callsP n) (callsS (callsP n) (callK (callsP n) (M + 3) 100)) []) (f0P n) (M + 2) ⟨[{ insZ with op := 28, ref := 1, args := [⟨-1, (n : Int)⟩] }], { termZ with kind := 3, a := ⟨0, 0⟩ }⟩ (r.2, [r.1])).2.1.deep - 1 }) := by
    rw [callK, if_neg (by show ¬ (100 : Int) < 0 + 1; decide), show (callsP n).funcs[(0 : Int).toNat]? = some (f0P n) from rfl]
    have hb : blocksS (insS (callsP n) (callsS (callsP n) (callK (callsP n) (M + 3) 100)) []) (f0P n) (M + 3) 0 (S0 [] [] 0 5000 stk 134217728 1) [0] = tailB (insS (callsP n) (callsS (callsP n) (callK (callsP n) (M + 3) 100)) []) (f0P n) (M + 2) ⟨[{ insZ with op := 28, ref := 1, args := [⟨-1, (n : Int)⟩] }], { termZ with kind := 3, a := ⟨0, 0⟩ }⟩ (r.2, [r.1]) := by
      rw [blocksS_tail _ (f0P n) (M + 2) 0 _ _ rfl _ rfl, runIns, hins]
      dsimp only
      split
      · rw [runIns]
      · rfl
    exact congrArg (fun x : Int × RunS × List Int => (x.1, { x.2.1 with sp := 134217728, deep := x.2.1.deep - 1 })) hb
  rw [hcall]
  by_cases hov : (100 : Int) < n + 2
  · obtain ⟨e1, e2⟩ := f_over n M n (by omega) 100 [] [] 1 5000 stk 134217728 1 (by omega) hl (by omega) (by omega) (by omega) (by omega) (by omega) (by omega)
    rw [hr] at e1 e2
    have ht : ∀ I q b rg, tailB I (f0P n) q b (r.2, rg) = (0, r.2, rg) := by intro I q b rg; unfold tailB; rw [if_neg (by rw [e1]; decide)]
    rw [ht]
    refine ⟨fun _ => ?_, fun h => by omega⟩
    unfold endS
    rw [if_neg (by show ¬ r.2.fin = 0; rw [e1]; decide)]
    exact ⟨e1, e2⟩
  · obtain ⟨stk', l', st', e, e2, e3, _⟩ := f_call n M n (by omega) 100 [] [] 1 5000 stk 134217728 1 (by omega) hl (by omega) (by omega) (by omega) (by omega) (by omega) (by simp; omega)
    rw [hr] at e
    subst e
    refine ⟨fun h => by omega, fun _ => ?_⟩
    have ht : ∀ I q, tailB I (f0P n) q ⟨[{ insZ with op := 28, ref := 1, args := [⟨-1, (n : Int)⟩] }], { termZ with kind := 3, a := ⟨0, 0⟩ }⟩ (S0 (outs n ++ []) l' st' 5000 stk' 134217728 1, [(n : Int)]) = ((n : Int), S0 (outs n ++ []) l' (st' + 1) 5000 stk' 134217728 1, [(n : Int)]) := by
      intro I q
      unfold tailB
      rw [if_pos (show (S0 (outs n ++ []) l' st' 5000 stk' 134217728 1).fin = 0 from rfl), step_go (by omega), if_pos (show (S0 (outs n ++ []) l' (st' + 1) 5000 stk' 134217728 1).fin = 0 from rfl), if_pos (show (3 : Int) = 3 from rfl)]
      rfl
    dsimp only
    rw [ht]
    refine ⟨rfl, rfl, ?_, ?_⟩
    · show ((outs n ++ []).length : Int) = _
      rw [List.append_nil, outs_len]; omega
    · show ∀ (i : Nat) (v : Int), (outs n ++ []).reverse[i]? = some v → v = i
      rw [List.append_nil]; exact outs_get n
end Go.Proofs.Ytjhloakacicdiaa
namespace Go.Proofs.Ytjhloakacicdiaa
open Go.AH Go.ChangeShapes Go.WideShapes Go.ChangeAt Go.RowKit
set_option maxRecDepth 100000 in
theorem rtlrunCalls_lifted (os : Os) (started : os.Started) (H : Type) (enc : TypeId × Value → H) :
    ReturnsInHanded {} Try.checked os 5 .any (Rows.rtlrunCallsSpec.pre6 enc Try.prog Try.f5 Rows.rtlrunCallsRow.domain false) (Rows.rtlrunCallsSpec.post enc Try.prog Try.f5 false true false false) := by
  refine handed_weighed (C := Try.checked) Try.own started (by kernel_rfl) Try.func5
    (ChangeSpec.witness6 (enc := enc) (C := Try.checked) false ⟨#[], #[.int .i64 0], []⟩ 8 (by kernel_rfl) (by kernel_rfl) (by kernel_rfl) (by kernel_rfl)) ?_
  intro W base args ds gs before hval0 hW hwt0
  have hval : ∀ (j : Nat) t v, Try.f5.params[j]? = some t → args[j]? = some v → Value.okWide Try.prog W .any base t v := hval0
  have hW' : DataW.Whole enc Try.prog Try.f5.params.toList Rows.rtlrunCallsSpec.vars false W args.toList ds gs before := hW
  obtain ⟨p, q, hA0, hV, hbe, hfz, hnd⟩ := hW
  have hA : DataW.TrodAll enc Try.prog W 0 (fun _ => true) true Try.f5.params.toList args.toList ds p := hA0
  have hpar : Try.f5.params = #[3] := by kernel_rfl
  have hA1 := hA
  rw [hpar] at hA1 hval
  obtain ⟨v0, d0, rfl, rfl, h0⟩ := trodAll_one hA1
  obtain ⟨rfl, rfl⟩ := trodVars_none hV
  obtain ⟨seed, rfl, _, _, _⟩ := open_int Try.underlying3 (hval 0 3 v0 rfl rfl) h0
  have hlay : Lay Try.prog.globals.size W [] := ⟨fun i w b h => by simp at h, fun i w b h => by simp at h⟩
  have hG : Try.prog.globals.size + ([] : List Win).length ≤ rwM := Nat.le_of_ble_eq_true (by kernel_rfl)
  have ht := RtlrunCalls_tf (hpW Try.prog.globals.size (fun _ => none) []) seed (5997 + 3) (by decide) (fun k h1 h2 => calls_law 5997 k h1 h2)
  have hh := TF.below ht (fun i b h => h) (by
    intro x hx
    have hx : x = Value.int .i64 seed := by simpa using hx
    subst hx
    simp) (Lay.hok hlay hG (fun i b _ h => by cases h))
  have hargs : (⟨[.int .i64 seed]⟩ : Array Value).map (ren (envW Try.prog.globals.size [])) = #[.int .i64 seed] := by
    simp only [List.map_toArray, List.map_cons, List.map_nil, ren_int]
  rw [hargs] at hh
  refine hh.mono fun e W' ⟨⟨ρ', he⟩, hb⟩ => ?_
  have hres : DataW.TrodAll enc Try.prog W' W.heap.size (fun _ => false) false [4] [.bool true] [.lit (.bool true)] [] := trodAll_mk1 (shutB (by kernel_rfl))
  refine ⟨.bool true, by simpa using he, [d0], [], before, [], p, [], hW', hres, ?_, rfl, Below.frame hb _, fun h => by cases h⟩
  refine trodAll_below Try.laidOut hb (ts := Try.f5.params.toList) (fun t ht => ?_) (fun x hx => hW'.lt x (by rw [hbe, List.append_nil]; exact hx)) hA
  rw [hpar] at ht
  have ht : t = 3 := by simpa using ht
  subst ht
  exact ⟨by kernel_rfl, of_decide_eq_true (by kernel_rfl)⟩
theorem rtlrunCalls_holds : Rows.RtlrunCallsSaid :=
  OpenClaim.holds_of_wide 5 Try.f5 rfl rfl rfl rfl rfl rfl rfl ⟨rfl, rfl, rfl, rfl, rfl⟩ rfl rfl rfl rfl rfl (by kernel_rfl) Try.func5 (by kernel_rfl)
    (of_decide_eq_true (by kernel_rfl)) (by unfold Func.isWrapper; rw [if_neg (by decide +kernel)]; exact ⟨rfl, rfl⟩)
    (fun os started H enc _ => rtlrunCalls_lifted os started H enc)
end Go.Proofs.Ytjhloakacicdiaa
