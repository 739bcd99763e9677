/-
  What the functions that the law reaches compute, told by plain data; it holds of programs that pass the check of right form and are light.
-/
import Derived.Test.YtjhloakacicdiaaR1
import Derived.Test.YtjhloakacicdiaaS2
set_option linter.unusedVariables false
set_option linter.unusedSimpArgs false
namespace Go.Proofs.Ytjhloakacicdiaa
open Go.AH
attribute [local irreducible] W RS
def wordC (w : BitVec 64) : Value := .int .u64 (w.toNat : Int)
def setC (s : SetS) : List Value := s.map wordC
@[simp] theorem setC_length (s : SetS) : (setC s).length = s.length := by simp [setC]
theorem setC_free (s : SetS) : ∀ v ∈ setC s, bnd 0 v := by
  intro v hv
  obtain ⟨w, _, rfl⟩ := List.mem_map.1 hv
  simp [wordC]
theorem setC_get {s : SetS} {i : Nat} {w : BitVec 64} (h : s[i]? = some w) : (setC s)[i]? = some (.int .u64 (w.toNat : Int)) := by simp [setC, h, wordC]
inductive SetAt (h : Hp) : Option Addr → SetS → Prop
  | none : SetAt h none []
  | some {b : Nat} {s : SetS} (hm : h.m b = some ⟨⟨setC s⟩, 78⟩) (hr : rwM ≤ b) : SetAt h (some ⟨b, 0, none⟩) s
def setH (h : Hp) (A : Option Addr) (s : SetS) : Hp := match A with
  | some a => h.set a.block ⟨⟨setC s⟩, 78⟩
  | none => h
theorem setC_set {s : SetS} {k : Nat} {f : BitVec 64 → BitVec 64} {w : BitVec 64} (h : s[k]? = some w) : setL (setC s) (0 + k * 1) [.int .u64 ((f w).toNat : Int)] = setC (s.modify k f) := by
  rw [Nat.zero_add, Nat.mul_one]
  rw [setL_cons, setL_nil]
  apply List.ext_getElem?
  intro i
  rw [List.getElem?_set]
  unfold setC
  simp only [List.getElem?_map, mod_get]
  obtain ⟨hk, h2⟩ := List.getElem?_eq_some_iff.1 h
  by_cases e : k = i
  · subst e
    simp [hk, wordC, h2]
  · simp [e]
theorem setC_put {s : SetS} {i : Int} {w : BitVec 64} (h : s[i.toNat / 64]? = some w) (h0 : 0 ≤ i) : setL (setC s) (0 + i.toNat / 64 * 1) [.int .u64 ((w ||| 1#64 <<< (i.toNat % 64)).toNat : Int)] = setC (putS s i) := by
  unfold putS
  rw [if_pos h0]
  exact setC_set (f := fun w => w ||| bitS i.toNat) (w := w) h
theorem setC_out {s : SetS} {i : Int} {w : BitVec 64} (h : s[i.toNat / 64]? = some w) (h0 : 0 ≤ i) : setL (setC s) (0 + i.toNat / 64 * 1) [.int .u64 ((w &&& ~~~ (1#64 <<< (i.toNat % 64))).toNat : Int)] = setC (outS s i) := by
  unfold outS
  rw [if_pos h0]
  exact setC_set (f := fun w => w &&& ~~~ bitS i.toNat) (w := w) h
theorem bit_and (w : BitVec 64) (k : Nat) : ((((w >>> k) &&& 1#64).toNat : Int) == 1) = w.getLsbD k := by
  have h4 : (w >>> k) &&& 1#64 = if w.getLsbD k then 1#64 else 0#64 := by
    apply BitVec.eq_of_getLsbD_eq
    intro i hi
    simp only [BitVec.getLsbD_and, BitVec.getLsbD_ushiftRight, BitVec.getLsbD_one]
    cases hw : w.getLsbD k <;> by_cases hi0 : i = 0 <;> simp [hi0, hw]
  rw [h4]
  cases w.getLsbD k <;> decide
theorem has_tf (s : SetS) (A : Option Addr) (c : Nat) (i : Int) (hi : fitI i) (hl : s.length ≤ 1000000000) (h : Hp) (hs : SetAt h A s) : TF Try.prog 12 ⟨[.slice A s.length c, .int .i64 i]⟩ h (.bool (hasS s i)) h := by
  obtain ⟨h0, h1⟩ := hi
  cases hs with
  | none =>
    refine TF.still (fn := Try.f12) (c := (Try.f12.body.getD .skip)) Try.func12 (by kernel_rfl) Try.ntmps12 (by kernel_rfl) (by simp) ?_
    conv => arg 2; whnf
    repeat (first | ((with_reducible apply RS.move); exact rfl; exact rfl; exact rfl) | ((with_reducible apply RS.assign); exact rfl; exact rfl; exact rfl) | ((with_reducible apply RS.cmpC); exact rfl; exact rfl; exact rfl; exact rfl; exact rfl) | ((with_reducible apply RS.nil); exact mixed; kernel_rfl) | ((with_reducible apply W.seq)) | ((with_reducible apply W.reg); kernel_rfl) | ((with_reducible apply thenK_n)))
    repeat' ((first | (((with_reducible apply RS.splitD); exact rfl; exact rfl) <;> intro _) | ((((with_reducible apply RS.splitG); exact rfl; exact rfl) <;> intro _) <;> (fail_if_success (exact absurd ‹true = false› (by decide))) <;> (fail_if_success (exact absurd ‹false = true› (by decide)))) | (((with_reducible apply W.condD); exact rfl) <;> intro _) | ((((with_reducible apply W.cond); exact rfl) <;> intro _) <;> (fail_if_success (exact absurd ‹true = false› (by decide))) <;> (fail_if_success (exact absurd ‹false = true› (by decide))))) <;> repeat (first | ((with_reducible apply RS.quo64); exact rfl; exact rfl; exact rfl; omega) | ((with_reducible apply RS.move); exact rfl; exact rfl; exact rfl) | ((with_reducible apply RS.assign); exact rfl; exact rfl; exact rfl) | ((with_reducible apply RS.pickT); exact rfl; exact rfl; exact rfl; exact rfl) | ((with_reducible apply RS.pickF); exact rfl; exact rfl; exact rfl; exact rfl) | ((with_reducible apply RS.cmpNat); exact rfl; exact rfl; exact rfl; exact rfl; exact rfl) | ((with_reducible apply RS.lenSl); exact rfl; exact rfl; exact rfl) | ((with_reducible apply RS.skip); exact rfl; exact rfl) | ((with_reducible apply RS.nil); exact mixed; kernel_rfl) | ((with_reducible apply W.ret)) | ((with_reducible apply thenK_n))))
    all_goals refine endsK_ret _ (.cons (.tmp rfl) .nil) ⟨rfl, ?_⟩
    all_goals simp [resultOf, hasS]
  | some hm hr =>
    rename_i b
    refine TF.dom fun hd => ?_
    have hn := hd _ _ hm
    refine TF.still (fn := Try.f12) (c := (Try.f12.body.getD .skip)) Try.func12 (by kernel_rfl) Try.ntmps12 (by kernel_rfl) (by simp) ?_
    conv => arg 2; whnf
    by_cases hlt : 0 ≤ i ∧ i.toNat / 64 < s.length
    · obtain ⟨w, hw⟩ : ∃ w, s[i.toNat / 64]? = some w := ⟨_, List.getElem?_eq_getElem hlt.2⟩
      obtain ⟨hge, hlt⟩ := hlt
      repeat (first | ((with_reducible apply RS.quo64); exact rfl; exact rfl; exact rfl; omega) | ((with_reducible apply RS.rem64); exact rfl; exact rfl; exact rfl; omega) | ((with_reducible apply RS.shrW); exact rfl; exact rfl; exact rfl; exact rfl; exact Nat.mod_lt _ (by decide)) | ((with_reducible apply RS.and1W); exact rfl; exact rfl; exact rfl) | ((with_reducible apply RS.indexAddrS); exact rfl; exact rfl; exact rfl; exact rfl; exact rfl; omega) | ((with_reducible apply RS.load1B); exact rfl; exact rfl; exact rfl; exact hm; exact hn; (rw [Nat.mul_one, Nat.zero_add]; exact setC_get hw)) | ((with_reducible apply RS.move); exact rfl; exact rfl; exact rfl) | ((with_reducible apply RS.assign); exact rfl; exact rfl; exact rfl) | ((with_reducible apply RS.pickT); exact rfl; exact rfl; exact rfl; exact rfl) | ((with_reducible apply RS.cmpT); exact rfl; exact rfl; exact rfl; exact rfl; (simp only [cmpP]; omega)) | ((with_reducible apply RS.cmpC); exact rfl; exact rfl; exact rfl; exact rfl; exact rfl) | ((with_reducible apply RS.lenSl); exact rfl; exact rfl; exact rfl) | ((with_reducible apply RS.nil); exact mixed; kernel_rfl) | ((with_reducible apply W.seq)) | ((with_reducible apply W.reg); kernel_rfl) | ((with_reducible apply W.ret)) | ((with_reducible apply thenK_n)))
      repeat' ((first | (((with_reducible apply RS.splitD); exact rfl; exact rfl) <;> intro _) | ((((with_reducible apply RS.splitG); exact rfl; exact rfl) <;> intro _) <;> (fail_if_success (exact absurd ‹true = false› (by decide))) <;> (fail_if_success (exact absurd ‹false = true› (by decide)))) | (((with_reducible apply W.condD); exact rfl) <;> intro _) | ((((with_reducible apply W.cond); exact rfl) <;> intro _) <;> (fail_if_success (exact absurd ‹true = false› (by decide))) <;> (fail_if_success (exact absurd ‹false = true› (by decide))))) <;> repeat (fail))
      all_goals refine endsK_ret _ (.cons (.tmp rfl) .nil) ⟨rfl, ?_⟩
      have e : hasS s i = w.getLsbD (i.toNat % 64) := by unfold hasS; rw [hw]; simp [hge]
      rw [e, ← bit_and]; rfl
    · have e : hasS s i = false := by
        unfold hasS
        by_cases h0 : 0 ≤ i
        · have : s[i.toNat / 64]? = none := by rw [List.getElem?_eq_none_iff]; omega
          rw [this]; simp
        · simp [h0]
      rw [e]
      repeat (first | ((with_reducible apply RS.move); exact rfl; exact rfl; exact rfl) | ((with_reducible apply RS.assign); exact rfl; exact rfl; exact rfl) | ((with_reducible apply RS.cmpC); exact rfl; exact rfl; exact rfl; exact rfl; exact rfl) | ((with_reducible apply RS.nil); exact mixed; kernel_rfl) | ((with_reducible apply W.seq)) | ((with_reducible apply W.reg); kernel_rfl) | ((with_reducible apply thenK_n)))
      repeat' ((first | (((with_reducible apply RS.splitD); exact rfl; exact rfl) <;> intro _) | ((((with_reducible apply RS.splitG); exact rfl; exact rfl) <;> intro _) <;> (fail_if_success (exact absurd ‹true = false› (by decide))) <;> (fail_if_success (exact absurd ‹false = true› (by decide)))) | (((with_reducible apply W.condD); exact rfl) <;> intro _) | ((((with_reducible apply W.cond); exact rfl) <;> intro _) <;> (fail_if_success (exact absurd ‹true = false› (by decide))) <;> (fail_if_success (exact absurd ‹false = true› (by decide))))) <;> repeat (first | ((with_reducible apply RS.quo64); exact rfl; exact rfl; exact rfl; omega) | ((with_reducible apply RS.move); exact rfl; exact rfl; exact rfl) | ((with_reducible apply RS.assign); exact rfl; exact rfl; exact rfl) | ((with_reducible apply RS.pickT); exact rfl; exact rfl; exact rfl; exact rfl) | ((with_reducible apply RS.pickF); exact rfl; exact rfl; exact rfl; exact rfl) | ((with_reducible apply RS.cmpF); exact rfl; exact rfl; exact rfl; exact rfl; (simp only [cmpN]; omega)) | ((with_reducible apply RS.lenSl); exact rfl; exact rfl; exact rfl) | ((with_reducible apply RS.skip); exact rfl; exact rfl) | ((with_reducible apply RS.nil); exact mixed; kernel_rfl) | ((with_reducible apply W.ret)) | ((with_reducible apply thenK_n))))
      all_goals exact endsK_ret _ (.cons (.tmp rfl) .nil) ⟨rfl, by simp [resultOf]; try omega⟩
theorem setH_ok {P : Program} {h : Hp} (s0 : Sat P h) {A : Option Addr} {s s' : SetS} (hs : SetAt h A s) : h.n ≤ (setH h A s').n ∧ ∀ i b, (setH h A s').m i = some b → i < (setH h A s').n ∧ ∀ u ∈ b.cells, bnd (setH h A s').n u := by
  cases hs with
  | none => exact ⟨Nat.le_refl _, fun i b hb => ⟨s0.dom i b hb, s0.bd i b hb⟩⟩
  | some hm hr =>
    rename_i k
    refine ⟨Nat.le_refl _, fun i b hb => ?_⟩
    have hb : (if i = k then some ⟨⟨setC s'⟩, 78⟩ else h.m i) = some b := hb
    split at hb
    · rename_i e
      simp only [Option.some.injEq] at hb
      subst hb; subst e
      exact ⟨s0.dom _ _ hm, fun u hu => bnd_mono (Nat.zero_le _) _ (setC_free _ u (by simpa using hu))⟩
    · exact ⟨s0.dom i b hb, s0.bd i b hb⟩
theorem setH_same {h : Hp} {A : Option Addr} {s : SetS} (hs : SetAt h A s) : setH h A s = h := by
  cases hs with
  | none => rfl
  | some hm hr =>
    rename_i k
    refine Hp.eq (fun i => ?_) rfl
    show (if i = k then some _ else h.m i) = h.m i
    split
    · rename_i e; rw [e, hm]
    · rfl
theorem put_no {s : SetS} {i : Int} (h : ¬ (0 ≤ i ∧ i.toNat / 64 < s.length)) : putS s i = s := by
  unfold putS
  split
  · apply List.ext_getElem?
    intro j
    rw [mod_get]
    split
    · have : s[j]? = none := by rw [List.getElem?_eq_none_iff]; omega
      rw [this]; rfl
    · rfl
  · rfl
theorem out_no {s : SetS} {i : Int} (h : ¬ (0 ≤ i ∧ i.toNat / 64 < s.length)) : outS s i = s := by
  unfold outS
  split
  · apply List.ext_getElem?
    intro j
    rw [mod_get]
    split
    · have : s[j]? = none := by rw [List.getElem?_eq_none_iff]; omega
      rw [this]; rfl
    · rfl
  · rfl
theorem put_tf (s : SetS) (A : Option Addr) (c : Nat) (i : Int) (hi : fitI i) (hl : s.length ≤ 1000000000) (h : Hp) (hs : SetAt h A s) : TF Try.prog 31 ⟨[.slice A s.length c, .int .i64 i]⟩ h (.tuple #[]) (setH h A (putS s i)) := by
  obtain ⟨h0, h1⟩ := hi
  refine TF.exact (fn := Try.f31) (c := (Try.f31.body.getD .skip)) Try.func31 (by kernel_rfl) Try.ntmps31 (by kernel_rfl) (fun s0 => ⟨(setH_ok s0 hs).1, by simp, (setH_ok s0 hs).2⟩) fun π s0 => ?_
  conv => arg 2; whnf
  by_cases hlt : 0 ≤ i ∧ i.toNat / 64 < s.length
  · obtain ⟨w, hw⟩ : ∃ w, s[i.toNat / 64]? = some w := ⟨_, List.getElem?_eq_getElem hlt.2⟩
    obtain ⟨hge, hlt⟩ := hlt
    cases hs with
    | none => simp at hw
    | some hm hr =>
      have hn := s0.dom _ _ hm
      repeat (first | ((with_reducible apply RS.quo64); exact rfl; exact rfl; exact rfl; omega) | ((with_reducible apply RS.rem64); exact rfl; exact rfl; exact rfl; omega) | ((with_reducible apply RS.shlW); exact rfl; exact rfl; exact rfl; exact Nat.mod_lt _ (by decide)) | ((with_reducible apply RS.orW); exact rfl; exact rfl; exact rfl; exact rfl) | ((with_reducible apply RS.indexAddrS); exact rfl; exact rfl; exact rfl; exact rfl; exact rfl; omega) | ((with_reducible apply RS.load1B); exact rfl; exact rfl; exact rfl; exact hm; exact hn; (rw [Nat.mul_one, Nat.zero_add]; exact setC_get hw)) | ((with_reducible apply RS.storeB); exact rfl; exact rfl; exact rfl; exact hm; exact hn; exact hr; (rw [setC_length]; omega); exact rfl; exact rfl; first | exact setC_put hw hge | exact setC_out hw hge) | ((with_reducible apply RS.move); exact rfl; exact rfl; exact rfl) | ((with_reducible apply RS.pickT); exact rfl; exact rfl; exact rfl; exact rfl) | ((with_reducible apply RS.cmpT); exact rfl; exact rfl; exact rfl; exact rfl; (simp only [cmpP]; omega)) | ((with_reducible apply RS.lenSl); exact rfl; exact rfl; exact rfl) | ((with_reducible apply RS.nil); exact mixed; kernel_rfl) | ((with_reducible apply W.seq)) | ((with_reducible apply W.reg); kernel_rfl) | ((with_reducible apply W.condT); kernel_rfl; exact rfl) | ((with_reducible apply thenK_n)))
      repeat' ((first | (((with_reducible apply RS.splitD); exact rfl; exact rfl) <;> intro _) | ((((with_reducible apply RS.splitG); exact rfl; exact rfl) <;> intro _) <;> (fail_if_success (exact absurd ‹true = false› (by decide))) <;> (fail_if_success (exact absurd ‹false = true› (by decide)))) | (((with_reducible apply W.condD); exact rfl) <;> intro _) | ((((with_reducible apply W.cond); exact rfl) <;> intro _) <;> (fail_if_success (exact absurd ‹true = false› (by decide))) <;> (fail_if_success (exact absurd ‹false = true› (by decide))))) <;> repeat (fail))
      all_goals exact endsK_normal [] .nil (fun B' a => ⟨rfl, a.up⟩)
  · rw [put_no hlt, setH_same hs]
    repeat (first | ((with_reducible apply RS.move); exact rfl; exact rfl; exact rfl) | ((with_reducible apply RS.cmpC); exact rfl; exact rfl; exact rfl; exact rfl; exact rfl) | ((with_reducible apply W.seq)) | ((with_reducible apply W.reg); kernel_rfl))
    repeat' ((first | (((with_reducible apply RS.splitD); exact rfl; exact rfl) <;> intro _) | ((((with_reducible apply RS.splitG); exact rfl; exact rfl) <;> intro _) <;> (fail_if_success (exact absurd ‹true = false› (by decide))) <;> (fail_if_success (exact absurd ‹false = true› (by decide)))) | (((with_reducible apply W.condD); exact rfl) <;> intro _) | ((((with_reducible apply W.cond); exact rfl) <;> intro _) <;> (fail_if_success (exact absurd ‹true = false› (by decide))) <;> (fail_if_success (exact absurd ‹false = true› (by decide))))) <;> repeat (first | ((with_reducible apply RS.quo64); exact rfl; exact rfl; exact rfl; omega) | ((with_reducible apply RS.move); exact rfl; exact rfl; exact rfl) | ((with_reducible apply RS.pickT); exact rfl; exact rfl; exact rfl; exact rfl) | ((with_reducible apply RS.pickF); exact rfl; exact rfl; exact rfl; exact rfl) | ((with_reducible apply RS.cmpF); exact rfl; exact rfl; exact rfl; exact rfl; (simp only [cmpN]; omega)) | ((with_reducible apply RS.lenSl); exact rfl; exact rfl; exact rfl) | ((with_reducible apply RS.skip); exact rfl; exact rfl) | ((with_reducible apply RS.nil); exact mixed; kernel_rfl) | ((with_reducible apply W.skip)) | ((with_reducible apply W.condF); kernel_rfl; exact rfl) | ((with_reducible apply thenK_n))))
    all_goals exact endsK_normal [] .nil (fun B' a => ⟨rfl, a.up⟩)
theorem out_tf (s : SetS) (A : Option Addr) (c : Nat) (i : Int) (hi : fitI i) (hl : s.length ≤ 1000000000) (h : Hp) (hs : SetAt h A s) : TF Try.prog 46 ⟨[.slice A s.length c, .int .i64 i]⟩ h (.tuple #[]) (setH h A (outS s i)) := by
  obtain ⟨h0, h1⟩ := hi
  refine TF.exact (fn := Try.f46) (c := (Try.f46.body.getD .skip)) Try.func46 (by kernel_rfl) Try.ntmps46 (by kernel_rfl) (fun s0 => ⟨(setH_ok s0 hs).1, by simp, (setH_ok s0 hs).2⟩) fun π s0 => ?_
  conv => arg 2; whnf
  by_cases hlt : 0 ≤ i ∧ i.toNat / 64 < s.length
  · obtain ⟨w, hw⟩ : ∃ w, s[i.toNat / 64]? = some w := ⟨_, List.getElem?_eq_getElem hlt.2⟩
    obtain ⟨hge, hlt⟩ := hlt
    cases hs with
    | none => simp at hw
    | some hm hr =>
      have hn := s0.dom _ _ hm
      repeat (first | ((with_reducible apply RS.quo64); exact rfl; exact rfl; exact rfl; omega) | ((with_reducible apply RS.rem64); exact rfl; exact rfl; exact rfl; omega) | ((with_reducible apply RS.shlW); exact rfl; exact rfl; exact rfl; exact Nat.mod_lt _ (by decide)) | ((with_reducible apply RS.andNotW); exact rfl; exact rfl; exact rfl; exact rfl) | ((with_reducible apply RS.indexAddrS); exact rfl; exact rfl; exact rfl; exact rfl; exact rfl; omega) | ((with_reducible apply RS.load1B); exact rfl; exact rfl; exact rfl; exact hm; exact hn; (rw [Nat.mul_one, Nat.zero_add]; exact setC_get hw)) | ((with_reducible apply RS.storeB); exact rfl; exact rfl; exact rfl; exact hm; exact hn; exact hr; (rw [setC_length]; omega); exact rfl; exact rfl; first | exact setC_put hw hge | exact setC_out hw hge) | ((with_reducible apply RS.move); exact rfl; exact rfl; exact rfl) | ((with_reducible apply RS.pickT); exact rfl; exact rfl; exact rfl; exact rfl) | ((with_reducible apply RS.cmpT); exact rfl; exact rfl; exact rfl; exact rfl; (simp only [cmpP]; omega)) | ((with_reducible apply RS.lenSl); exact rfl; exact rfl; exact rfl) | ((with_reducible apply RS.nil); exact mixed; kernel_rfl) | ((with_reducible apply W.seq)) | ((with_reducible apply W.reg); kernel_rfl) | ((with_reducible apply W.condT); kernel_rfl; exact rfl) | ((with_reducible apply thenK_n)))
      repeat' ((first | (((with_reducible apply RS.splitD); exact rfl; exact rfl) <;> intro _) | ((((with_reducible apply RS.splitG); exact rfl; exact rfl) <;> intro _) <;> (fail_if_success (exact absurd ‹true = false› (by decide))) <;> (fail_if_success (exact absurd ‹false = true› (by decide)))) | (((with_reducible apply W.condD); exact rfl) <;> intro _) | ((((with_reducible apply W.cond); exact rfl) <;> intro _) <;> (fail_if_success (exact absurd ‹true = false› (by decide))) <;> (fail_if_success (exact absurd ‹false = true› (by decide))))) <;> repeat (fail))
      all_goals exact endsK_normal [] .nil (fun B' a => ⟨rfl, a.up⟩)
  · rw [out_no hlt, setH_same hs]
    repeat (first | ((with_reducible apply RS.move); exact rfl; exact rfl; exact rfl) | ((with_reducible apply RS.cmpC); exact rfl; exact rfl; exact rfl; exact rfl; exact rfl) | ((with_reducible apply W.seq)) | ((with_reducible apply W.reg); kernel_rfl))
    repeat' ((first | (((with_reducible apply RS.splitD); exact rfl; exact rfl) <;> intro _) | ((((with_reducible apply RS.splitG); exact rfl; exact rfl) <;> intro _) <;> (fail_if_success (exact absurd ‹true = false› (by decide))) <;> (fail_if_success (exact absurd ‹false = true› (by decide)))) | (((with_reducible apply W.condD); exact rfl) <;> intro _) | ((((with_reducible apply W.cond); exact rfl) <;> intro _) <;> (fail_if_success (exact absurd ‹true = false› (by decide))) <;> (fail_if_success (exact absurd ‹false = true› (by decide))))) <;> repeat (first | ((with_reducible apply RS.quo64); exact rfl; exact rfl; exact rfl; omega) | ((with_reducible apply RS.move); exact rfl; exact rfl; exact rfl) | ((with_reducible apply RS.pickT); exact rfl; exact rfl; exact rfl; exact rfl) | ((with_reducible apply RS.pickF); exact rfl; exact rfl; exact rfl; exact rfl) | ((with_reducible apply RS.cmpF); exact rfl; exact rfl; exact rfl; exact rfl; (simp only [cmpN]; omega)) | ((with_reducible apply RS.lenSl); exact rfl; exact rfl; exact rfl) | ((with_reducible apply RS.skip); exact rfl; exact rfl) | ((with_reducible apply RS.nil); exact mixed; kernel_rfl) | ((with_reducible apply W.skip)) | ((with_reducible apply W.condF); kernel_rfl; exact rfl) | ((with_reducible apply thenK_n))))
    all_goals exact endsK_normal [] .nil (fun B' a => ⟨rfl, a.up⟩)
theorem rep_set (n : Nat) : repL (cellsV (.int .u64 0)) n = setC (List.replicate n 0) := by
  induction n with
  | zero => rfl
  | succ n ih => rw [repL, ih, List.replicate_succ]; rfl
theorem empty_len {n : Int} (h : 0 ≤ n) : ((n + 63).toNat / 64 : Nat) = ((max n 0).toNat + 63) / 64 := by omega
theorem RS.max0 {P : Program} {ops : Array Oper} {draw : Bool} {rs : List Rk} {l : List Oper} {fl : List (Nat × Value)} {nt : Nat} {h : SH} {K : Fr → SH → Prop} {d : Tmp} {ty : TypeId} {pos : String} {af : Array Edge} {gd : Option (Nat × Bool)} {t t' : TypeId} {x : Operand} {a : Int} (hw : wantB ops ⟨some d, .call { callee := .builtin .max, args := #[x, .const (.int .i64 0)], argTypes := #[t, t'] }, ty, pos, af, gd⟩ ⟨fl, nt⟩ = some true) (hd : Nat.blt d nt = true)
    (hx : Fr.ev ⟨fl, nt⟩ x = some (.int .i64 a)) (ha : 0 ≤ a)
    (hk : RS P ops draw (recP h.k false [] (some []) :: rs) l ⟨(d, .int .i64 a) :: fl, nt⟩ h K) : RS P ops draw rs (⟨some d, .call { callee := .builtin .max, args := #[x, .const (.int .i64 0)], argTypes := #[t, t'] }, ty, pos, af, gd⟩ :: l) ⟨fl, nt⟩ h K := by
  refine RS.maxI hw hd hx rfl ?_
  rw [if_neg (by omega)]; exact hk
theorem empty_tf (n : Int) (h0 : 0 ≤ n) (h1 : n ≤ 1000000) (h : Hp) : TF Try.prog 30 ⟨[.int .i64 n]⟩ h (.slice (some ⟨h.n, 0, none⟩) (emptyS n).length (emptyS n).length) (h.push ⟨⟨setC (emptyS n)⟩, 78⟩) := by
  have e : emptyS n = List.replicate ((n + 63).toNat / 64) 0 := by unfold emptyS; rw [empty_len h0]
  rw [e, List.length_replicate]
  refine TF.ends (fn := Try.f30) (c := (Try.f30.body.getD .skip)) (Q := RowQ (fun _ => setC (List.replicate ((n + 63).toNat / 64) 0)) 78 ((n + 63).toNat / 64) ((n + 63).toNat / 64) h) Try.func30 (by kernel_rfl) Try.ntmps30 (by kernel_rfl) ?_ (row_end (fun v hv => bnd_mono (Nat.zero_le _) _ (setC_free _ v hv)))
  conv => arg 2; whnf
  repeat (first | ((with_reducible apply RS.quo64); exact rfl; exact rfl; exact rfl; omega) | ((with_reducible apply RS.max0); exact rfl; exact rfl; exact rfl; omega) | ((with_reducible apply RS.makeSliceF); exact rfl; exact rfl; exact rfl; exact rfl; exact rfl; exact rfl; omega; exact rep_set _; exact setC_free _) | ((with_reducible apply RS.move); exact rfl; exact rfl; exact rfl) | ((with_reducible apply RS.assign); exact rfl; exact rfl; exact rfl) | ((with_reducible apply RS.binFit); exact rfl; exact rfl; exact rfl; exact rfl; exact rfl; omega) | ((with_reducible apply RS.nil); exact mixed; kernel_rfl) | ((with_reducible apply W.seq)) | ((with_reducible apply W.reg); kernel_rfl) | ((with_reducible apply W.ret)) | ((with_reducible apply thenK_n)))
  all_goals exact endsK_ret _ (.cons (.tmp rfl) .nil) ⟨rfl, 0, Nat.lt_succ_self 0, rfl, rfl⟩
end Go.Proofs.Ytjhloakacicdiaa
namespace Go.Proofs.Ytjhloakacicdiaa
open Go.AH
attribute [local irreducible] W RS
def OffS (S : Nat → Prop) (h h' : Hp) : Prop := h.n ≤ h'.n ∧ ∀ i, i < h.n → ¬ S i → h'.m i = h.m i
def Old (h h' : Hp) : Prop := h.n ≤ h'.n ∧ ∀ i, i < h.n → h'.m i = h.m i
theorem Old.refl (h : Hp) : Old h h := ⟨Nat.le_refl _, fun _ _ => rfl⟩
theorem Old.trans {a b c : Hp} (h1 : Old a b) (h2 : Old b c) : Old a c := ⟨Nat.le_trans h1.1 h2.1, fun i hi => by rw [h2.2 i (Nat.lt_of_lt_of_le hi h1.1), h1.2 i hi]⟩
theorem Old.off {S : Nat → Prop} {a b : Hp} (h1 : Old a b) : OffS S a b := ⟨h1.1, fun i hi _ => h1.2 i hi⟩
theorem OffS.refl (S : Nat → Prop) (h : Hp) : OffS S h h := ⟨Nat.le_refl _, fun _ _ _ => rfl⟩
theorem OffS.trans {S T : Nat → Prop} {a b c : Hp} (h1 : OffS S a b) (h2 : OffS T b c) (hs : ∀ i, i < a.n → T i → S i) : OffS S a c :=
  ⟨Nat.le_trans h1.1 h2.1, fun i hi hn => by rw [h2.2 i (Nat.lt_of_lt_of_le hi h1.1) (fun ht => hn (hs i hi ht)), h1.2 i hi hn]⟩
theorem OffS.mono {S T : Nat → Prop} {a b : Hp} (h1 : OffS S a b) (hs : ∀ i, i < a.n → S i → T i) : OffS T a b := ⟨h1.1, fun i hi hn => h1.2 i hi fun h => hn (hs i hi h)⟩
theorem OffS.old {S : Nat → Prop} {a b : Hp} (h1 : OffS S a b) (hs : ∀ i, i < a.n → ¬ S i) : Old a b := ⟨h1.1, fun i hi => h1.2 i hi (hs i hi)⟩
theorem Old.up {a b : Hp} (h : Old a b) (hd : ∀ i x, a.m i = some x → i < a.n) : ∀ i x, a.m i = some x → b.m i = some x := fun i x hx => by rw [h.2 i (hd i x hx)]; exact hx
theorem Old.push (h : Hp) (b : Blk) : Old h (h.push b) := ⟨Nat.le_succ _, fun i hi => by show (if i = h.n then some b else h.m i) = _; rw [if_neg (by omega)]⟩
theorem push_new (h : Hp) (b : Blk) : (h.push b).m h.n = some b := by show (if h.n = h.n then some b else h.m h.n) = _; rw [if_pos rfl]
theorem OffS.set (h : Hp) (i : Nat) (b : Blk) : OffS (fun j => j = i) h (h.set i b) := ⟨Nat.le_refl _, fun j _ hn => by show (if j = i then some b else h.m j) = _; rw [if_neg hn]⟩
theorem Absb.Old {P : Program} {h : Hp} {s : SH} {B : Hp} (hb : s.base = h) (a : Absb (P := P) s B) : Old h B := by
  subst hb
  exact ⟨a.le, a.old⟩
theorem _root_.Go.AH.Absb.oldH {P : Program} {h : Hp} {π : Nat → Nat} {k : Nat} {l : List (Nat × Option Blk)} {B : Hp} (a : Absb (P := P) ⟨h, π, k, l⟩ B) : Old h B := ⟨a.le, a.old⟩
def IntAt (h : Hp) (L : Option Addr) (l : List Int) : Prop := l = [] ∨ ∃ nr, L = some ⟨nr, 0, none⟩ ∧ h.m nr = some ⟨⟨l.map (.int .i64)⟩, 3⟩
theorem IntAt.up {h H : Hp} {L : Option Addr} {l : List Int} (s : IntAt h L l) (hu : ∀ i b, h.m i = some b → H.m i = some b) : IntAt H L l := by
  rcases s with s | ⟨nr, h1, h2⟩
  · exact .inl s
  · exact .inr ⟨nr, h1, hu _ _ h2⟩
theorem next_ex (t : TermS) (h : Hp) : EX Try.prog 33 [.agg ⟨termC t⟩] h (fun v h' => ∃ A c, v = .slice A (nextS t).length c ∧ IntAt h' A (nextS t) ∧ Old h h' ∧ ∀ a, A = some a → h.n ≤ a.block) := by
  have new : ∀ a : Addr, some (⟨h.n, 0, none⟩ : Addr) = some a → h.n ≤ a.block := fun a ha => by injection ha with ha; rw [← ha]; exact Nat.le_refl _
  unfold nextS
  split
  · rename_i hk
    refine (TF.ex (next1_tf t hk h)).mono ?_
    rintro v h' _ ⟨rfl, rfl⟩
    exact ⟨_, _, rfl, .inr ⟨_, rfl, push_new _ _⟩, Old.push _ _, new⟩
  · split
    · rename_i _ hk
      refine (TF.ex (next2_tf t hk h)).mono ?_
      rintro v h' _ ⟨rfl, rfl⟩
      exact ⟨_, _, rfl, .inr ⟨_, rfl, push_new _ _⟩, Old.push _ _, new⟩
    · rename_i h1 h2
      refine (TF.ex (next0_tf t h1 h2 h)).mono ?_
      rintro v h' _ ⟨rfl, rfl⟩
      exact ⟨_, _, rfl, .inl rfl, Old.refl _, fun a ha => by cases ha⟩
theorem argR_row {h : Hp} {b : Nat} {l : List ArgS} {e : TypeId} (hm : h.m b = some ⟨⟨argsC l⟩, e⟩) : SlAt h (some ⟨b, 0, none⟩) 2 l argR :=
  ⟨fun i a ha => ⟨b, 0, argsC l, e, rfl, hm, by rw [argsC_length]; have := (List.getElem?_eq_some_iff.1 ha).1; omega, argsC_at ha⟩⟩
theorem treads_ex (t : TermS) (h : Hp) : EX Try.prog 59 [.agg ⟨termC t⟩] h (fun v h' => ∃ A c, v = .slice A (treadsS t).length c ∧ SlAt h' A 2 (treadsS t) argR ∧ Old h h') := by
  unfold treadsS
  split
  · rename_i hk
    refine (TF.ex (treads2_tf t hk h)).mono ?_
    rintro v h' _ ⟨rfl, rfl⟩
    exact ⟨_, _, rfl, argR_row (l := [t.a, t.b]) (e := 43) (by simpa [argsC] using push_new _ _), Old.push _ _⟩
  · split
    · rename_i _ hk
      refine (TF.ex (treads3_tf t hk h)).mono ?_
      rintro v h' _ ⟨rfl, rfl⟩
      exact ⟨_, _, rfl, argR_row (l := [t.a]) (e := 43) (by simpa [argsC] using push_new _ _), Old.push _ _⟩
    · rename_i h1 h2
      refine (TF.ex (treads0_tf t h1 h2 h)).mono ?_
      rintro v h' _ ⟨rfl, rfl⟩
      exact ⟨_, _, rfl, .nil, Old.refl _⟩
theorem reads_ex (x : InsS) (A : Option Addr) (c : Nat) (hn : x.args.length ≤ 1000000000) (h : Hp) (hl : SlAt h A 2 x.args argR) : EX Try.prog 57 [.agg ⟨insC x A c⟩] h (fun v h' => ∃ A' c', v = .slice A' (readsS x).length c' ∧ SlAt h' A' 2 (readsS x) argR ∧ Old h h') := by
  by_cases h28 : x.op = 28
  · refine (TF.ex (reads28_tf x A c h28 h)).mono ?_
    rintro v h' _ ⟨rfl, rfl⟩
    have e : readsS x = x.args := by unfold readsS; rw [if_pos h28]
    rw [e]
    exact ⟨_, _, rfl, hl, Old.refl _⟩
  by_cases h29 : x.op = 29
  · refine (TF.ex (reads29_tf x A c h29 hn h hl)).mono ?_
    rintro v h' _ ⟨rfl, rfl⟩
    have e : readsS x = x.a :: x.args := by unfold readsS; rw [if_neg h28, if_pos h29]
    rw [e]
    exact ⟨_, _, by rw [List.length_cons, Nat.add_comm], argR_row (push_new _ _), Old.push _ _⟩
  by_cases h2 : twoS x.op = true ∨ x.op = 27
  · refine (TF.ex (reads2_tf x A c h2 h)).mono ?_
    rintro v h' _ ⟨rfl, rfl⟩
    have e : readsS x = [x.a, x.b] := by unfold readsS; rw [if_neg h28, if_neg h29, if_pos h2]
    rw [e]
    exact ⟨_, _, rfl, argR_row (l := [x.a, x.b]) (e := 43) (by simpa [argsC] using push_new _ _), Old.push _ _⟩
  by_cases h3 : 23 ≤ x.op ∧ x.op ≤ 25
  · refine (TF.ex (reads0_tf x A c h3 h)).mono ?_
    rintro v h' _ ⟨rfl, rfl⟩
    have e : readsS x = [] := by unfold readsS; rw [if_neg h28, if_neg h29, if_neg h2, if_pos h3]
    rw [e]
    exact ⟨_, _, rfl, .nil, Old.refl _⟩
  · rw [not_or] at h2
    refine (TF.ex (reads1_tf x A c (by simpa using h2.1) h3 (by omega) h)).mono ?_
    rintro v h' _ ⟨rfl, rfl⟩
    have e : readsS x = [x.a] := by unfold readsS; rw [if_neg h28, if_neg h29, if_neg (not_or.2 h2), if_neg h3]
    rw [e]
    exact ⟨_, _, rfl, argR_row (l := [x.a]) (e := 43) (by simpa [argsC] using push_new _ _), Old.push _ _⟩
end Go.Proofs.Ytjhloakacicdiaa
namespace Go.Proofs.Ytjhloakacicdiaa
open Go.AH
attribute [local irreducible] W RS
theorem RS.minN {P : Program} {ops : Array Oper} {draw : Bool} {rs : List Rk} {l : List Oper} {fl : List (Nat × Value)} {nt : Nat} {h : SH} {K : Fr → SH → Prop} {d : Tmp} {ty : TypeId} {pos : String} {af : Array Edge} {gd : Option (Nat × Bool)} {t t' : TypeId} {x y : Operand} {a b : Nat} (hw : wantB ops ⟨some d, .call { callee := .builtin .min, args := #[x, y], argTypes := #[t, t'] }, ty, pos, af, gd⟩ ⟨fl, nt⟩ = some true) (hd : Nat.blt d nt = true)
    (hx : Fr.ev ⟨fl, nt⟩ x = some (.int .i64 (a : Int))) (hy : Fr.ev ⟨fl, nt⟩ y = some (.int .i64 (b : Int)))
    (hk : RS P ops draw (recP h.k false [] (some []) :: rs) l ⟨(d, .int .i64 ((min a b : Nat) : Int)) :: fl, nt⟩ h K) : RS P ops draw rs (⟨some d, .call { callee := .builtin .min, args := #[x, y], argTypes := #[t, t'] }, ty, pos, af, gd⟩ :: l) ⟨fl, nt⟩ h K := by
  refine RS.free hw hd (v := .int .i64 ((min a b : Nat) : Int)) (fun c g H => tx_two (u := .int .i64 (a : Int)) (w := .int .i64 (b : Int)) rfl (fun _ _ => by simp) (g.ev hx) (g.ev hy) (by simp) (by simp) (by simp) fun ev W hu hw' => ?_) (by simp) hk
  have hu : ev x = .int .i64 (a : Int) := hu
  have hw' : ev y = .int .i64 (b : Int) := hw'
  have e : (if (b : Int) < (a : Int) then (b : Int) else (a : Int)) = ((min a b : Nat) : Int) := by split <;> omega
  simp only [execOp, resolve, invoke, builtin, Sem.run_bind, Sem.run_pure, Result.andThen_ok, List.map_toArray, List.map_cons, List.map_nil, hu, hw', run_min_int2, e]
theorem word_ne (a b : BitVec 64) : ((a.toNat : Int) != (b.toNat : Int)) = (a != b) := by
  by_cases h : a = b
  · subst h; simp
  · have : a.toNat ≠ b.toNat := fun e => h (BitVec.eq_of_toNat_eq e)
    have h2 : (a.toNat : Int) ≠ (b.toNat : Int) := by omega
    rw [bne_iff_ne.2 h2, bne_iff_ne.2 h]
theorem RS.neqW {P : Program} {ops : Array Oper} {draw : Bool} {rs : List Rk} {l : List Oper} {fl : List (Nat × Value)} {nt : Nat} {h : SH} {K : Fr → SH → Prop} {d : Tmp} {ty : TypeId} {pos : String} {af : Array Edge} {gd : Option (Nat × Bool)} {t yt : TypeId} {x y : Operand} {a b : BitVec 64} (hw : wantB ops ⟨some d, .binOp .neq t x y yt, ty, pos, af, gd⟩ ⟨fl, nt⟩ = some true) (hd : Nat.blt d nt = true)
    (hx : Fr.ev ⟨fl, nt⟩ x = some (.int .u64 (a.toNat : Int))) (hy : Fr.ev ⟨fl, nt⟩ y = some (.int .u64 (b.toNat : Int)))
    (hk : RS P ops draw (recP h.k false [] (some []) :: rs) l ⟨(d, .bool (a != b)) :: fl, nt⟩ h K) : RS P ops draw rs (⟨some d, .binOp .neq t x y yt, ty, pos, af, gd⟩ :: l) ⟨fl, nt⟩ h K := by
  refine RS.bin hw hd hx hy (v := .bool (a != b)) ?_ hk
  simp only [binI, word_ne]
theorem joinS_take0 (s o : SetS) : joinS s (o.take 0) = s := by cases s <;> rfl
theorem joinS_take (s o : SetS) (n : Nat) (h : s.length ≤ n ∨ o.length ≤ n) : joinS s (o.take n) = joinS s o := by
  apply List.ext_getElem?
  intro k
  rw [joinS_get, joinS_get, List.getElem?_take]
  cases hs : s[k]? with
  | none => rfl
  | some w =>
    have hk := (List.getElem?_eq_some_iff.1 hs).1
    by_cases hn : k < n
    · rw [if_pos hn]
    · have : o[k]? = none := by rw [List.getElem?_eq_none_iff]; omega
      rw [if_neg hn, this]
theorem joinS_at {s o : SetS} {i : Nat} {w : BitVec 64} (hw : s[i]? = some w) : (joinS s (o.take i))[i]? = some w := by
  rw [joinS_get, hw, List.getElem?_take]; simp
theorem joinS_next {s o : SetS} {i : Nat} {w u : BitVec 64} (hw : s[i]? = some w) (hu : o[i]? = some u) : joinS s (o.take (i + 1)) = (joinS s (o.take i)).modify i (fun _ => w ||| u) := by
  apply List.ext_getElem?
  intro k
  rw [mod_get, joinS_get, joinS_get, List.getElem?_take, List.getElem?_take]
  by_cases e : i = k
  · subst e; simp [hw, hu]
  · rw [if_neg e]
    by_cases h1 : k < i
    · rw [if_pos (by omega), if_pos h1]
    · rw [if_neg (by omega), if_neg h1]
theorem joinS_nx_same {s o : SetS} {i : Nat} {w u : BitVec 64} (hw : s[i]? = some w) (hu : o[i]? = some u) (he : (w ||| u) = w) : joinS s (o.take (i + 1)) = joinS s (o.take i) := by
  rw [joinS_next hw hu, he]
  apply List.ext_getElem?
  intro k
  rw [mod_get]
  split
  · rename_i e; subst e; rw [joinS_at hw]; rfl
  · rfl
theorem joinS_more {s o : SetS} {i : Nat} {w u : BitVec 64} (hw : s[i]? = some w) (hu : o[i]? = some u) (he : (w ||| u) ≠ w) : joinS s (o.take (i + 1)) ≠ s := by
  intro h
  have : (joinS s (o.take (i + 1)))[i]? = some (w ||| u) := by rw [joinS_get, hw, List.getElem?_take]; simp [hu]
  rw [h, hw] at this
  exact he (Option.some.inj this).symm
theorem join_tf (s o : SetS) (A A' : Option Addr) (c c' : Nat) (hl : s.length ≤ 1000000000) (hl' : o.length ≤ 1000000000) (h : Hp) (hs : SetAt h A s) (ho : SetAt h A' o) (hne : A ≠ A' ∨ A = none) : TF Try.prog 78 ⟨[.slice A s.length c, .slice A' o.length c']⟩ h (.bool (joinS s o != s)) (setH h A (joinS s o)) := by
  refine TF.exact (fn := Try.f78) (c := (Try.f78.body.getD .skip)) Try.func78 (by kernel_rfl) Try.ntmps78 (by kernel_rfl) (fun s0 => ⟨(setH_ok s0 hs).1, by simp, (setH_ok s0 hs).2⟩) fun π s0 => ?_
  conv => arg 2; whnf
  repeat (first | ((with_reducible apply RS.minN); exact rfl; exact rfl; exact rfl; exact rfl) | ((with_reducible apply RS.move); exact rfl; exact rfl; exact rfl) | ((with_reducible apply RS.assign); exact rfl; exact rfl; exact rfl) | ((with_reducible apply RS.lenSl); exact rfl; exact rfl; exact rfl) | ((with_reducible apply RS.nil); exact mixed; kernel_rfl) | ((with_reducible apply W.seq)) | ((with_reducible apply W.reg); kernel_rfl) | ((with_reducible apply W.block)) | ((with_reducible apply thenK_n)))
  refine W.joinNB (X := Unit) (fun _ => [(5, .bool (joinS s o != s))]) (fun _ B => ∀ i b, (setH h A (joinS s o)).m i = some b → B.m i = some b) ?_ ?_
  · refine W.loopN (X := Nat) (fun i => [(0, .slice A s.length c), (1, .slice A' o.length c'), (12, .int .i64 ((min s.length o.length : Nat) : Int)), (13, .int .i64 (i : Int)), (5, .bool (joinS s (o.take i) != s))]) (fun i B => i ≤ min s.length o.length ∧ ∀ j b, (setH h A (joinS s (o.take i))).m j = some b → B.m j = some b) (fun i => min s.length o.length - i) (fun B' a => ⟨0, ?_, by simp, fun j b hb => a.up j b ?_⟩) ?_
    · rw [joinS_take0]
      simp only [bne_self_eq_false]
      exact ⟨rfl, rfl, rfl, rfl, rfl, trivial⟩
    · rw [joinS_take0, setH_same hs] at hb; exact hb
    · intro i B π sB hI
      obtain ⟨hi, hI⟩ := hI
      by_cases hlt : i < min s.length o.length
      · have h1 : i < s.length := by omega
        have h2 : i < o.length := by omega
        obtain ⟨w, hw⟩ : ∃ w, s[i]? = some w := ⟨_, List.getElem?_eq_getElem h1⟩
        obtain ⟨u, hu⟩ : ∃ u, o[i]? = some u := ⟨_, List.getElem?_eq_getElem h2⟩
        cases hs with
        | none => simp at h1
        | some hm hr =>
          rename_i b
          cases ho with
          | none => simp at h2
          | some hm' hr' =>
            rename_i b'
            have hbb : b' ≠ b := by
              intro e; subst e; rcases hne with hne | hne
              · exact hne rfl
              · cases hne
            have hB : B.m b = some ⟨⟨setC (joinS s (o.take i))⟩, 78⟩ := hI _ _ (by show (if b = b then _ else _) = _; rw [if_pos rfl])
            have hO : B.m b' = some ⟨⟨setC o⟩, 78⟩ := hI _ _ (by show (if b' = b then _ else _) = _; rw [if_neg hbb]; exact hm')
            have hBn := sB.dom _ _ hB
            have hOn := sB.dom _ _ hO
            repeat (first | ((with_reducible apply RS.orW); exact rfl; exact rfl; exact rfl; exact rfl) | ((with_reducible apply RS.neqW); exact rfl; exact rfl; exact rfl; exact rfl) | ((with_reducible apply RS.indexAddrS); exact rfl; exact rfl; exact rfl; exact rfl; exact rfl; omega) | ((with_reducible apply RS.load1B); exact rfl; exact rfl; exact rfl; exact hB; exact hBn; (rw [Nat.mul_one, Nat.zero_add]; exact setC_get (joinS_at hw))) | ((with_reducible apply RS.load1B); exact rfl; exact rfl; exact rfl; exact hO; exact hOn; (rw [Nat.mul_one, Nat.zero_add]; exact setC_get hu)) | ((with_reducible apply RS.move); exact rfl; exact rfl; exact rfl) | ((with_reducible apply RS.assign); exact rfl; exact rfl; exact rfl) | ((with_reducible apply RS.cmpT); exact rfl; exact rfl; exact rfl; exact rfl; (simp only [cmpP]; omega)) | ((with_reducible apply RS.nil); exact mixed; kernel_rfl) | ((with_reducible apply W.seq)) | ((with_reducible apply W.reg); kernel_rfl) | ((with_reducible apply W.block)) | ((with_reducible apply W.skip)) | ((with_reducible apply W.condT); kernel_rfl; exact rfl) | ((with_reducible apply thenK_n)))
            repeat' ((first | (((with_reducible apply RS.splitD); exact rfl; exact rfl) <;> intro _) | ((((with_reducible apply RS.splitG); exact rfl; exact rfl) <;> intro _) <;> (fail_if_success (exact absurd ‹true = false› (by decide))) <;> (fail_if_success (exact absurd ‹false = true› (by decide)))) | (((with_reducible apply W.condD); exact rfl) <;> intro _) | ((((with_reducible apply W.cond); exact rfl) <;> intro _) <;> (fail_if_success (exact absurd ‹true = false› (by decide))) <;> (fail_if_success (exact absurd ‹false = true› (by decide))))) <;> repeat (first | ((with_reducible apply RS.indexAddrS); exact rfl; exact rfl; exact rfl; exact rfl; exact rfl; omega) | ((with_reducible apply RS.storeB); exact rfl; exact rfl; exact rfl; exact hB; exact hBn; exact hr; (rw [setC_length, joinS_length]; omega); exact rfl; exact rfl; exact setC_set (f := fun _ => w ||| u) (joinS_at hw)) | ((with_reducible apply RS.move); exact rfl; exact rfl; exact rfl) | ((with_reducible apply RS.assign); exact rfl; exact rfl; exact rfl) | ((with_reducible apply RS.add1); exact rfl; exact rfl; exact rfl; exact rfl; omega) | ((with_reducible apply RS.nil); exact mixed; kernel_rfl) | ((with_reducible apply W.reg); kernel_rfl) | ((with_reducible apply W.skip)) | ((with_reducible apply thenK_n)) | ((with_reducible apply blockK_n))))
            · refine roundN_n rfl fun B' a => ⟨i + 1, ?_, ⟨by omega, fun j bb hb => a.up j bb ?_⟩, by omega⟩
              · have hne' : (joinS s (o.take (i + 1)) != s) = true := by rw [bne_iff_ne]; exact joinS_more hw hu (by simpa using ‹(w ||| u != w) = true›)
                rw [hne']
                (repeat' (first | exact trivial | exact rfl | apply And.intro)); done
              · rw [joinS_next hw hu] at hb
                have hb : (if j = b then some ⟨⟨setC ((joinS s (o.take i)).modify i fun _ => w ||| u)⟩, 78⟩ else h.m j) = some bb := hb
                show (if j = b then some ⟨⟨setC ((joinS s (o.take i)).modify i fun _ => w ||| u)⟩, 78⟩ else B.m j) = some bb
                by_cases e : j = b
                · rw [if_pos e] at hb ⊢; exact hb
                · rw [if_neg e] at hb ⊢; exact hI j bb (by show (if j = b then _ else h.m j) = _; rw [if_neg e]; exact hb)
            · have he : (w ||| u) = w := by simpa using ‹(w ||| u != w) = false›
              refine roundN_n rfl fun B' a => ⟨i + 1, ?_, ⟨by omega, fun j b hb => a.up j b ?_⟩, by omega⟩
              · rw [joinS_nx_same hw hu he]
                (repeat' (first | exact trivial | exact rfl | apply And.intro)); done
              · rw [joinS_nx_same hw hu he] at hb
                exact hI j b hb
      · have hge : min s.length o.length ≤ i := by omega
        repeat (first | ((with_reducible apply RS.cmpF); exact rfl; exact rfl; exact rfl; exact rfl; (simp only [cmpN]; omega)) | ((with_reducible apply RS.nil); exact mixed; kernel_rfl) | ((with_reducible apply W.seq)) | ((with_reducible apply W.reg); kernel_rfl) | ((with_reducible apply W.exit)) | ((with_reducible apply W.condF); kernel_rfl; exact rfl) | ((with_reducible apply thenK_n)) | ((with_reducible apply thenK_e)) | ((with_reducible apply blockK_hit); exact rfl) | ((with_reducible apply roundN_e)))
        refine joinN_n rfl fun B' a => ⟨(), ?_, fun j b hb => a.up j b ?_⟩
        · rw [← joinS_take s o i (by omega)]
          (repeat' (first | exact trivial | exact rfl | apply And.intro)); done
        · rw [← joinS_take s o i (by omega)] at hb
          exact hI j b hb
  · intro x B π sB hB
    repeat (first | ((with_reducible apply RS.move); exact rfl; exact rfl; exact rfl) | ((with_reducible apply RS.assign); exact rfl; exact rfl; exact rfl) | ((with_reducible apply RS.nil); exact mixed; kernel_rfl) | ((with_reducible apply W.seq)) | ((with_reducible apply W.reg); kernel_rfl) | ((with_reducible apply W.ret)) | ((with_reducible apply thenK_n)))
    exact endsK_ret _ (.cons (.tmp rfl) .nil) (fun B' a => ⟨rfl, fun i b hb => a.up i b (hB i b hb)⟩)
theorem setcopy_ex (s : SetS) (A : Option Addr) (c : Nat) (hl : s.length ≤ 1000000000) (h : Hp) (hs : SetAt h A s) : EX Try.prog 74 [.slice A s.length c] h (fun v h' => ∃ A' c', v = .slice A' s.length c' ∧ SetAt h' A' s ∧ Old h h' ∧ ∀ a, A' = some a → h.n ≤ a.block) := by
  refine EX.intro (fn := Try.f74) (c := (Try.f74.body.getD .skip)) Try.func74 (by kernel_rfl) Try.ntmps74 (by kernel_rfl) fun π s0 => ?_
  conv => arg 2; whnf
  by_cases hs0 : s.length = 0
  · have e : s = [] := List.length_eq_zero_iff.1 hs0
    repeat (first | ((with_reducible apply RS.appendNil0); exact rfl; exact rfl; exact rfl; exact rfl; exact hs0; kernel_rfl) | ((with_reducible apply RS.move); exact rfl; exact rfl; exact rfl) | ((with_reducible apply RS.assign); exact rfl; exact rfl; exact rfl) | ((with_reducible apply RS.nil); exact mixed; kernel_rfl) | ((with_reducible apply W.seq)) | ((with_reducible apply W.reg); kernel_rfl) | ((with_reducible apply W.ret)) | ((with_reducible apply thenK_n)))
    refine endsK_ret _ (.cons (.tmp rfl) .nil) (fun B' a => ⟨none, 0, by rw [hs0]; rfl, by rw [e]; exact .none, a.oldH, fun a ha => by cases ha⟩)
  · cases hs with
    | none => exact absurd rfl hs0
    | some hm hr =>
      have hn := s0.dom _ _ hm
      have hcs : takeV 0 (s.length * 1) (setC s) = setC s := by have := takeV_all (setC s); rwa [setC_length, ← Nat.mul_one s.length] at this
      repeat (first | ((with_reducible apply RS.appendNilB); exact rfl; exact rfl; exact rfl; exact rfl; exact rfl; exact rfl; exact hm; exact hn; (rw [setC_length]; omega); omega; omega; omega; exact hcs) | ((with_reducible apply RS.move); exact rfl; exact rfl; exact rfl) | ((with_reducible apply RS.assign); exact rfl; exact rfl; exact rfl) | ((with_reducible apply RS.nil); exact mixed; kernel_rfl) | ((with_reducible apply W.seq)) | ((with_reducible apply W.reg); kernel_rfl) | ((with_reducible apply W.ret)) | ((with_reducible apply thenK_n)))
      refine endsK_ret _ (.cons (.tmp rfl) .nil) (fun B' a => ?_)
      have hlo : h.n ≤ π 0 := a.lo 0 (Nat.lt_succ_self 0)
      have hm0 := a.loc 0 (Nat.lt_succ_self 0)
      have hrw : rwM ≤ π 0 := Nat.le_trans a.rw hlo
      refine ⟨some ⟨π 0, 0, none⟩, capOf 1, rfl, .some hm0 hrw, a.oldH, fun b hb => ?_⟩
      simp only [Option.some.injEq] at hb
      rw [← hb]; exact hlo
end Go.Proofs.Ytjhloakacicdiaa
namespace Go.Proofs.Ytjhloakacicdiaa
open Go.AH
attribute [local irreducible] W RS
def SN (A : Option Addr) (i : Nat) : Prop := A = some ⟨i, 0, none⟩
theorem setAt_up {h H : Hp} {A : Option Addr} {s : SetS} (hs : SetAt h A s) (hu : ∀ i b, h.m i = some b → H.m i = some b) : SetAt H A s := by
  cases hs with
  | none => exact .none
  | some hm hr => exact .some (hu _ _ hm) hr
theorem OffS.same {S : Nat → Prop} {a b c : Hp} (h1 : OffS S a b) (h2 : OffS S b c) : OffS S a c := h1.trans h2 fun _ _ h => h
theorem setH_at {h : Hp} {A : Option Addr} {s s' : SetS} (hs : SetAt h A s) (hl : s'.length = s.length) : SetAt (setH h A s') A s' := by
  cases hs with
  | none => rw [List.length_eq_zero_iff.1 hl]; exact .none
  | some hm hr => exact .some (by show (if _ = _ then _ else _) = _; rw [if_pos rfl]) hr
theorem setH_off {h : Hp} {A : Option Addr} {s s' : SetS} (hs : SetAt h A s) : OffS (SN A) h (setH h A s') := by
  cases hs with
  | none => exact OffS.refl _ _
  | some hm hr =>
    refine (OffS.set _ _ _).mono fun i _ e => ?_
    subst e; rfl
def killA (h : Hp) (A : Option Addr) : Hp := match A with
  | some a => h.kill a.block
  | none => h
theorem killA_get {h : Hp} {A : Option Addr} {i : Nat} {b : Blk} (hk : (killA h A).m i = some b) : h.m i = some b ∧ ¬ SN A i := by
  cases A with
  | none => exact ⟨hk, fun e => by cases e⟩
  | some a =>
    have hk : (if i = a.block then none else h.m i) = some b := hk
    split at hk
    · cases hk
    · rename_i hne
      refine ⟨hk, fun e => hne ?_⟩
      have e : some a = some ⟨i, 0, none⟩ := e
      injection e with e
      rw [e]
theorem killA_in {h : Hp} {A : Option Addr} {i : Nat} {b : Blk} (hm : h.m i = some b) (hne : ∀ a, A = some a → i ≠ a.block) : (killA h A).m i = some b := by
  cases A with
  | none => exact hm
  | some a => show (if i = a.block then none else h.m i) = some b; rw [if_neg (hne a rfl)]; exact hm
theorem setC_noarg {s : SetS} {off : Nat} {a : ArgS} (h : takeV off 2 (setC s) = argC a) : False := by
  rw [takeV_eq] at h
  have h1 : (argC a)[0]? = some (.int .i64 a.reg) := rfl
  rw [← h, List.getElem?_take_of_lt (by decide), List.getElem?_drop] at h1
  have h2 := List.mem_of_getElem? h1
  obtain ⟨w, _, hw⟩ := List.mem_map.1 h2
  cases hw
theorem SlAt.apart {h : Hp} {A L : Option Addr} {s : SetS} {l : List ArgS} (hl : SlAt h L 2 l argR) (hs : SetAt h A s) : SlAt (killA h A) L 2 l argR := by
  refine ⟨fun i x hx => ?_⟩
  obtain ⟨b, off, cs, e, h1, h2, h3, h4⟩ := hl.get i x hx
  refine ⟨b, off, cs, e, h1, killA_in h2 fun a ha hb => ?_, h3, h4⟩
  cases hs with
  | none => cases ha
  | some hm hr =>
    injection ha with ha
    subst ha
    simp only at hb
    subst hb
    rw [hm] at h2
    injection h2 with h2
    injection h2 with h2 _
    injection h2 with h2
    subst h2
    exact setC_noarg h4
theorem offA_up {h B : Hp} {A : Option Addr} (hd : ∀ i b, h.m i = some b → i < h.n) (ho : OffS (SN A) h B) : ∀ i b, (killA h A).m i = some b → B.m i = some b := by
  intro i b hb
  obtain ⟨h1, h2⟩ := killA_get hb
  rw [ho.2 i (hd i b h1) h2]; exact h1
theorem SlAt.setH {h : Hp} (hd : ∀ i b, h.m i = some b → i < h.n) {A L : Option Addr} {s s' : SetS} {l : List ArgS} (hl : SlAt h L 2 l argR) (hs : SetAt h A s) : SlAt (setH h A s') L 2 l argR :=
  (hl.apart hs).mono (offA_up hd (setH_off hs)) fun _ _ h => h
theorem useS_length (s : SetS) (l : List ArgS) : (useS s l).length = s.length := by
  unfold useS
  induction l generalizing s with
  | nil => rfl
  | cons a l ih => rw [List.foldl_cons, ih, putS_length]
theorem useS_take {s : SetS} {l : List ArgS} {i : Nat} {a : ArgS} (ha : l[i]? = some a) : useS s (l.take (i + 1)) = putS (useS s (l.take i)) a.reg := by
  have h1 := (List.getElem?_eq_some_iff.1 ha)
  obtain ⟨h1, h2⟩ := h1
  rw [List.take_succ_eq_append_getElem h1, h2]
  simp [useS]
set_option maxRecDepth 100000 in
theorem use_ex (s : SetS) (A : Option Addr) (c : Nat) (l : List ArgS) (L : Option Addr) (cL : Nat) (hsl : s.length ≤ 1000000000) (hll : l.length ≤ 1000000001) (hfit : ∀ a ∈ l, fitI a.reg) (h : Hp) (hs : SetAt h A s) (hl : SlAt h L 2 l argR) :
    EX Try.prog 79 [.slice A s.length c, .slice L l.length cL] h (fun _ h' => SetAt h' A (useS s l) ∧ OffS (SN A) h h') := by
  refine EX.intro (fn := Try.f79) (c := (Try.f79.body.getD .skip)) Try.func79 (by kernel_rfl) Try.ntmps79 (by kernel_rfl) fun π s0 => ?_
  conv => arg 2; whnf
  have hd := s0.dom
  have hap := hl.apart hs
  repeat (first | ((with_reducible apply RS.move); exact rfl; exact rfl; exact rfl) | ((with_reducible apply RS.lenSl); exact rfl; exact rfl; exact rfl) | ((with_reducible apply RS.nil); exact mixed; kernel_rfl) | ((with_reducible apply W.seq)) | ((with_reducible apply W.reg); kernel_rfl) | ((with_reducible apply W.block)) | ((with_reducible apply thenK_n)))
  refine W.loopN (X := Nat) (fun i => [(0, .slice A s.length c), (6, .slice L l.length cL), (7, .int .i64 (l.length : Int)), (8, .int .i64 (i : Int))]) (fun i B => i ≤ l.length ∧ SetAt B A (useS s (l.take i)) ∧ OffS (SN A) h B) (fun i => l.length - i) (fun B' a => ⟨0, ?_, by omega, ?_, a.oldH.off⟩) ?_
  · (repeat' (first | exact trivial | exact rfl | apply And.intro)); done
  · rw [List.take_zero]; exact setAt_up hs a.up
  · intro i B π sB hI
    obtain ⟨hi, hset, hoff⟩ := hI
    by_cases hlt : i < l.length
    · obtain ⟨x, hx⟩ : ∃ x, l[i]? = some x := ⟨_, List.getElem?_eq_getElem hlt⟩
      obtain ⟨b, off, cs, e, rfl, hM, hMl, hMv⟩ := (hap.mono (offA_up hd hoff) fun _ _ h => h).get i x hx
      have hMn := sB.dom _ _ hM
      have hMv : takeV (off + i * 2) 2 cs = argC x := hMv
      have hfa := hfit x (List.mem_of_getElem? hx)
      have hsl : (useS s (l.take i)).length ≤ 1000000000 := by rw [useS_length]; exact hsl
      have hlen : s.length = (useS s (l.take i)).length := (useS_length _ _).symm
      rw [hlen]
      repeat (first | ((with_reducible apply RS.indexAddrS); exact rfl; exact rfl; exact rfl; exact rfl; exact rfl; omega) | ((with_reducible apply RS.loadNB); exact rfl; exact rfl; exact rfl; exact hM; exact hMn; exact hMl; exact hMv) | ((with_reducible apply RS.callEx); exact rfl; exact rfl; exact rfl; intro B1 hB1; refine ⟨_, TF.ex (put_tf _ A c _ hfa hsl B1 (setAt_up hset hB1.up)), ?_⟩; rintro v H' π ⟨rfl, rfl⟩ sH hle) | ((with_reducible apply RS.move); exact rfl; exact rfl; exact rfl) | ((with_reducible apply RS.cmpT); exact rfl; exact rfl; exact rfl; exact rfl; (simp only [cmpP]; omega)) | ((with_reducible apply RS.add1); exact rfl; exact rfl; exact rfl; exact rfl; omega) | ((with_reducible apply RS.fieldAddr); exact rfl; exact rfl; exact rfl) | ((with_reducible apply RS.load1); exact rfl; exact rfl; exact rfl; exact rfl; exact rfl; exact rfl) | ((with_reducible apply RS.store); exact rfl; exact rfl; exact rfl; exact rfl; exact rfl; exact Nat.le_of_ble_eq_true rfl; exact rfl; exact rfl; exact rfl) | ((with_reducible apply RS.alloc); exact rfl; exact rfl) | ((with_reducible apply RS.nil); exact mixed; kernel_rfl) | ((with_reducible apply W.seq)) | ((with_reducible apply W.reg); kernel_rfl) | ((with_reducible apply W.block)) | ((with_reducible apply W.skip)) | ((with_reducible apply W.condT); kernel_rfl; exact rfl) | ((with_reducible apply thenK_n)) | ((with_reducible apply blockK_n)))
      refine roundN_n rfl fun B' a => ⟨i + 1, ?_, ⟨by omega, ?_, ?_⟩, by omega⟩
      · (repeat' (first | exact trivial | exact rfl | apply And.intro)); done
      · rw [useS_take hx]
        exact setAt_up (setH_at (setAt_up hset hB1.up) (putS_length _ _)) a.up
      · exact ((hoff.same hB1.oldH.off).same (setH_off (setAt_up hset hB1.up))).same a.oldH.off
    · repeat (first | ((with_reducible apply RS.cmpF); exact rfl; exact rfl; exact rfl; exact rfl; (simp only [cmpN]; omega)) | ((with_reducible apply RS.nil); exact mixed; kernel_rfl) | ((with_reducible apply W.seq)) | ((with_reducible apply W.reg); kernel_rfl) | ((with_reducible apply W.exit)) | ((with_reducible apply W.condF); kernel_rfl; exact rfl) | ((with_reducible apply thenK_n)) | ((with_reducible apply thenK_e)) | ((with_reducible apply blockK_hit); exact rfl) | ((with_reducible apply roundN_e)))
      rw [List.take_of_length_le (by omega)] at hset
      exact endsK_normal [] .nil (fun B' a => ⟨setAt_up hset a.up, hoff.same a.oldH.off⟩)
theorem readsS_len (x : InsS) (h : x.args.length ≤ 1000000000) : (readsS x).length ≤ 1000000001 := by
  unfold readsS
  repeat' split
  all_goals (try simp only [List.length_cons, List.length_nil])
  all_goals first | omega | decide
theorem back_ex (s : SetS) (A : Option Addr) (c : Nat) (x : InsS) (A2 : Option Addr) (c2 : Nat) (hsl : s.length ≤ 1000000000) (hxl : x.args.length ≤ 1000000000) (hfd : fitI x.dst) (hfit : ∀ a ∈ readsS x, fitI a.reg) (h : Hp) (hs : SetAt h A s) (hl : SlAt h A2 2 x.args argR) :
    EX Try.prog 76 [.slice A s.length c, .agg ⟨insC x A2 c2⟩] h (fun _ h' => SetAt h' A (backS s x) ∧ OffS (SN A) h h') := by
  refine EX.intro (fn := Try.f76) (c := (Try.f76.body.getD .skip)) Try.func76 (by kernel_rfl) Try.ntmps76 (by kernel_rfl) fun π s0 => ?_
  conv => arg 2; whnf
  ((with_reducible apply W.seq); repeat (first | ((with_reducible apply RS.box); exact rfl; exact rfl; exact rfl) | ((with_reducible apply RS.nil); exact mixed; kernel_rfl) | ((with_reducible apply W.reg); kernel_rfl) | ((with_reducible apply thenK_n))))
  refine W.absorbX fun B0 π0 a0 => ?_
  have hq : B0.m (π 0) = some ⟨⟨insC x A2 c2⟩, 64⟩ := a0.loc 0 (Nat.lt_succ_self 0)
  have hqlo : h.n ≤ π 0 := a0.lo 0 (Nat.lt_succ_self 0)
  have hqn : π 0 < B0.n := a0.hi 0 (Nat.lt_succ_self 0)
  have hs0 := setAt_up hs a0.up
  have hnq : ¬ SN A (π 0) := by
    intro e
    cases hs with
    | none => cases e
    | some hm hr =>
      have := s0.dom _ _ hm
      have e : some _ = some _ := e
      injection e with e
      injection e with e
      omega
  generalize π 0 = q at *
  ((with_reducible apply W.seq); repeat (first | ((with_reducible apply RS.callEx); exact rfl; exact rfl; exact rfl; intro B1 hB1; refine ⟨_, TF.ex (out_tf s A c x.dst hfd hsl B1 (setAt_up hs0 hB1.up)), ?_⟩; rintro v H' π ⟨rfl, rfl⟩ sH hle) | ((with_reducible apply RS.load1B); exact rfl; exact rfl; exact rfl; exact hq; exact hqn; exact rfl) | ((with_reducible apply RS.move); exact rfl; exact rfl; exact rfl) | ((with_reducible apply RS.fieldAddr); exact rfl; exact rfl; exact rfl) | ((with_reducible apply RS.nil); exact mixed; kernel_rfl) | ((with_reducible apply W.reg); kernel_rfl) | ((with_reducible apply thenK_n))))
  have hs1 : SetAt (setH B1 A (outS s x.dst)) A (outS s x.dst) := setH_at (setAt_up hs0 hB1.up) (outS_length _ _)
  have hl1 : SlAt (setH B1 A (outS s x.dst)) A2 2 x.args argR := SlAt.setH hB1.dom ((hl.mono a0.up fun _ _ h => h).mono hB1.up fun _ _ h => h) (setAt_up hs0 hB1.up)
  have hq1 : (setH B1 A (outS s x.dst)).m q = some ⟨⟨insC x A2 c2⟩, 64⟩ := by
    rw [(setH_off (setAt_up hs0 hB1.up)).2 q (Nat.lt_of_lt_of_le hqn hB1.le) hnq]
    exact hB1.up _ _ hq
  have hq1n := sH.dom _ _ hq1
  have hsl3 : (outS s x.dst).length ≤ 1000000000 := by rw [outS_length]; exact hsl
  have hrl := readsS_len x hxl
  have hlen : s.length = (outS s x.dst).length := (outS_length _ _).symm
  rw [hlen]
  repeat (first | ((with_reducible apply RS.callEx); exact rfl; exact rfl; exact rfl; intro B2 hB2; refine ⟨_, reads_ex x A2 c2 hxl B2 (hl1.mono hB2.up fun _ _ h => h), ?_⟩; rintro v H2 π ⟨A3, c3, rfl, hrow, hold⟩ sH2 hle2) | ((with_reducible apply RS.loadNB); exact rfl; exact rfl; exact rfl; exact hq1; exact hq1n; exact Nat.le_of_ble_eq_true rfl; exact rfl) | ((with_reducible apply RS.callEx); exact rfl; exact rfl; exact rfl; intro B3 hB3; refine ⟨_, use_ex _ A c (readsS x) A3 c3 hsl3 hrl hfit B3 (setAt_up (setAt_up (setAt_up hs1 hB2.up) (hold.up hB2.dom)) hB3.up) (hrow.mono hB3.up fun _ _ h => h), ?_⟩; rintro v H4 π ⟨hs4, ho4⟩ sH4 hle4) | ((with_reducible apply RS.nil); exact mixed; kernel_rfl))
  exact endsK_normal [] .nil (fun B' a => ⟨setAt_up hs4 a.up, ((((((a0.oldH.off.same hB1.oldH.off).same (setH_off (setAt_up hs0 hB1.up))).same hB2.oldH.off).same hold.off).same hB3.oldH.off).same ho4).same a.oldH.off⟩)
end Go.Proofs.Ytjhloakacicdiaa
namespace Go.Proofs.Ytjhloakacicdiaa
open Go.AH
attribute [local irreducible] W RS
theorem stk_lt {h : Hp} {e : TypeId} {A : Option Addr} {cap : Nat} {vs : List Value} (s : StkRow h e A cap vs) (hv : vs ≠ []) : ∃ r t, A = some ⟨r, 0, none⟩ ∧ h.m r = some ⟨⟨vs ++ t⟩, e⟩ ∧ rwM ≤ r ∧ (cap = capOf 1 ∨ (cap = vs.length + t.length ∧ cap < capMark)) := by
  cases s with
  | nil => exact absurd rfl hv
  | row hm hr hc => exact ⟨_, _, rfl, hm, hr, hc⟩
theorem pop_ex (wb : Nat) (A : Option Addr) (cap : Nat) (vs : List Value) (x : Int) (hl : vs.length ≤ 1000000000) (h : Hp) (hw : h.m wb = some ⟨⟨[.slice A (vs.length + 1 : Nat) cap]⟩, 32⟩) (hrw : rwM ≤ wb) (hs : StkRow h 3 A cap (vs ++ [.int .i64 x])) :
    EX Try.prog 32 [.pointer (some ⟨wb, 0, none⟩)] h (fun v h' => v = .int .i64 x ∧ h'.m wb = some ⟨⟨[.slice A vs.length cap]⟩, 32⟩ ∧ StkRow h' 3 A cap vs ∧ OffS (fun i => i = wb) h h') := by
  refine EX.intro (fn := Try.f32) (c := (Try.f32.body.getD .skip)) Try.func32 (by kernel_rfl) Try.ntmps32 (by kernel_rfl) fun π s0 => ?_
  conv => arg 2; whnf
  obtain ⟨r, t, rfl, hm, hr, hc⟩ := stk_lt hs (by simp)
  have hwn := s0.dom _ _ hw
  have hmn := s0.dom _ _ hm
  have hat : (vs ++ [Value.int .i64 x] ++ t)[0 + vs.length * 1]? = some (.int .i64 x) := by simp
  have hle : vs.length ≤ (vs ++ [Value.int .i64 x] ++ t).length := by simp
  have hcap : cap = capOf 1 ∨ (vs.length ≤ cap ∧ cap < capMark) := by
    rcases hc with hc | ⟨hc, hcm⟩
    · exact .inl hc
    · exact .inr ⟨by simp at hc; omega, hcm⟩
  repeat (first | ((with_reducible apply RS.load1B); exact rfl; exact rfl; exact rfl; exact hw; exact hwn; exact rfl) | ((with_reducible apply RS.indexAddrS); exact rfl; exact rfl; exact rfl; exact rfl; exact rfl; omega) | ((with_reducible apply RS.load1B); exact rfl; exact rfl; exact rfl; exact hm; exact hmn; exact hat) | ((with_reducible apply RS.sliceStk); exact rfl; exact rfl; exact rfl; exact rfl; exact hm; exact hmn; exact hr; exact hle; exact hcap) | ((with_reducible apply RS.storeB); exact rfl; exact rfl; exact rfl; exact hw; exact hwn; exact hrw; exact Nat.le_of_ble_eq_true rfl; exact rfl; exact rfl; exact rfl) | ((with_reducible apply RS.nilCheck); exact rfl; exact rfl; exact rfl) | ((with_reducible apply RS.move); exact rfl; exact rfl; exact rfl) | ((with_reducible apply RS.assign); exact rfl; exact rfl; exact rfl) | ((with_reducible apply RS.sub1); exact rfl; exact rfl; exact rfl; exact rfl; omega) | ((with_reducible apply RS.lenSl); exact rfl; exact rfl; exact rfl) | ((with_reducible apply RS.nil); exact mixed; kernel_rfl) | ((with_reducible apply W.seq)) | ((with_reducible apply W.reg); kernel_rfl) | ((with_reducible apply W.ret)) | ((with_reducible apply thenK_n)))
  have hne : r ≠ wb := by
    intro e
    subst e
    rw [hw] at hm
    simp at hm
  refine endsK_ret _ (.cons (.tmp rfl) .nil) fun B' a => ⟨rfl, a.up _ _ ?_, ?_, ?_⟩
  · show (if wb = wb then _ else _) = _
    rw [if_pos rfl]; rfl
  · refine .row (t := .int .i64 x :: t) (a.up _ _ ?_) hr ?_
    · show (if r = wb then _ else h.m r) = _
      rw [if_neg hne, hm]; simp
    · rcases hc with hc | ⟨hc, hcm⟩
      · exact .inl hc
      · exact .inr ⟨by simp at hc ⊢; omega, hcm⟩
  · exact (OffS.set h wb _).same a.oldH.off
structure FAt (h : Hp) (fb : Nat) (regs : Int) (A : Option Addr) (c : Nat) (bl : List BlockS) : Prop where
  hf : ∃ fcs, h.m fb = some ⟨⟨fcs⟩, 35⟩ ∧ fcs[3]? = some (.int .i64 regs) ∧ fcs[5]? = some (.slice A bl.length c)
  sl : SlAt h A 9 bl (blockR h)
theorem FAt.up {h H : Hp} {fb : Nat} {regs : Int} {A : Option Addr} {c : Nat} {bl : List BlockS} (f : FAt h fb regs A c bl) (hu : ∀ i b, h.m i = some b → H.m i = some b) : FAt H fb regs A c bl := by
  obtain ⟨fcs, h1, h2⟩ := f.hf
  exact ⟨⟨fcs, hu _ _ h1, h2⟩, f.sl.mono hu fun _ _ h => blockR_mono hu h⟩
def tgtOK (bl : List BlockS) : Prop := ∀ b ∈ bl, ∀ k ∈ nextS b.term, 0 ≤ k ∧ k < bl.length
def lackS (n : Nat) (s : SetS) : Nat := ((List.range n).filter fun i : Nat => !hasS s (i : Int)).length
theorem lackS_put {n : Nat} {s : SetS} {k : Int} (h0 : 0 ≤ k) (hk : k < n) (hs : hasS s k = false) (hl : k.toNat / 64 < s.length) : lackS n (putS s k) + 1 = lackS n s := by
  unfold lackS
  obtain ⟨m, rfl⟩ : ∃ m : Nat, k = m := ⟨k.toNat, by omega⟩
  have hm : m < n := by omega
  clear h0 hk
  induction n with
  | zero => omega
  | succ n ih =>
    rw [List.range_succ, List.filter_append, List.filter_append, List.length_append, List.length_append]
    have hput : ∀ i : Nat, hasS (putS s (m : Int)) (i : Int) = (hasS s i || decide (m = i)) := by
      intro i
      rw [hasS_put]
      by_cases e : m = i
      · subst e; simp at hl; simp [hl]
      · have : (m : Int) ≠ (i : Int) := by omega
        simp [e, this]
    by_cases e : m = n
    · subst e
      have e1 : (List.range m).filter (fun i : Nat => !hasS (putS s (m : Int)) (i : Int)) = (List.range m).filter (fun i : Nat => !hasS s (i : Int)) := by
        apply List.filter_congr
        intro i hi
        have : i < m := List.mem_range.1 hi
        rw [hput, decide_eq_false (by omega), Bool.or_false]
      rw [e1]
      simp [hput, hs]
    · have := ih (by omega)
      have e2 : hasS (putS s (m : Int)) (n : Int) = hasS s (n : Int) := by rw [hput, decide_eq_false e, Bool.or_false]
      simp only [List.filter_cons, List.filter_nil, e2]
      omega
end Go.Proofs.Ytjhloakacicdiaa
namespace Go.Proofs.Ytjhloakacicdiaa
open Go.AH
attribute [local irreducible] W RS
theorem empty_ex (n : Int) (h0 : 0 ≤ n) (h1 : n ≤ 1000000) (h : Hp) : EX Try.prog 30 [.int .i64 n] h (fun v h' => ∃ sb, v = .slice (some ⟨sb, 0, none⟩) (emptyS n).length (emptyS n).length ∧ h'.m sb = some ⟨⟨setC (emptyS n)⟩, 78⟩ ∧ Old h h' ∧ h.n ≤ sb) := by
  refine (TF.ex (empty_tf n h0 h1 h)).mono ?_
  rintro v h' _ ⟨rfl, rfl⟩
  exact ⟨h.n, rfl, push_new _ _, Old.push _ _, Nat.le_refl _⟩
theorem emptyS_length (n : Int) : (emptyS n).length = ((max n 0).toNat + 63) / 64 := by simp [emptyS]
theorem takeV_part {off w j n : Nat} {cs vs : List Value} (h : takeV off w cs = vs) (hj : j + n ≤ w) : takeV (off + j) n cs = (vs.drop j).take n := by
  subst h
  rw [takeV_eq, takeV_eq, List.drop_take, List.drop_drop, List.take_take, Nat.min_eq_left (by omega)]
def intsV (l : List Int) : List Value := l.reverse.map (.int .i64)
@[simp] theorem intsV_length (l : List Int) : (intsV l).length = l.length := by simp [intsV]
theorem intsV_cons (n : Int) (l : List Int) : intsV (n :: l) = intsV l ++ [.int .i64 n] := by simp [intsV]
structure ReachI (h : Hp) (L : Nat) (sb wb : Nat) (X : Nat → Prop) (s : SetS) (work : List Int) (B : Hp) : Prop where
  old : Old h B
  hs : B.m sb = some ⟨⟨setC s⟩, 78⟩
  hl : s.length = L
  stk : ∃ A cap, B.m wb = some ⟨⟨[.slice A work.length cap]⟩, 32⟩ ∧ StkRow B 3 A cap (intsV work) ∧ ∀ a, A = some a → h.n ≤ a.block ∧ ¬ X a.block
theorem ReachI.up {h : Hp} {L sb wb : Nat} {X : Nat → Prop} {s : SetS} {work : List Int} {B B' : Hp} (r : ReachI h L sb wb X s work B) (hd : ∀ i x, B.m i = some x → i < B.n) (o : Old B B') : ReachI h L sb wb X s work B' := by
  obtain ⟨A, cap, h1, h2, h3⟩ := r.stk
  exact ⟨r.old.trans o, o.up hd _ _ r.hs, r.hl, A, cap, o.up hd _ _ h1, h2.up (o.up hd), h3⟩
theorem setH_keep {h : Hp} {A : Option Addr} {s s' : SetS} (hs : SetAt h A s) {i : Nat} {b : Blk} (hm : h.m i = some b) (he : b.elem ≠ 78) : (setH h A s').m i = some b := by
  cases hs with
  | none => exact hm
  | some hm' hr =>
    rename_i k
    show (if i = k then _ else h.m i) = some b
    by_cases e : i = k
    · subst e
      rw [hm'] at hm
      injection hm with hm
      rw [← hm] at he
      exact absurd rfl he
    · rw [if_neg e]; exact hm
theorem setH_stk {h : Hp} {A : Option Addr} {s s' : SetS} (hs : SetAt h A s) {B : Option Addr} {cap : Nat} {vs : List Value} (st : StkRow h 3 B cap vs) : StkRow (setH h A s') 3 B cap vs := by
  cases st with
  | nil => exact .nil
  | row hm hr hc => exact .row (setH_keep hs hm (by simp)) hr hc
theorem stk_ne {h : Hp} {B : Option Addr} {cap : Nat} {vs : List Value} (st : StkRow h 3 B cap vs) {i : Nat} {b : Blk} (hm : h.m i = some b) (he : b.elem ≠ 3) : B ≠ some ⟨i, 0, none⟩ := by
  intro e
  cases st with
  | nil => cases e
  | row hm' hr hc =>
    injection e with e
    injection e with e
    subst e
    rw [hm'] at hm
    injection hm with hm
    rw [← hm] at he
    exact he rfl
set_option maxRecDepth 100000 in
theorem reached_ex (fb : Nat) (regs : Int) (A : Option Addr) (c : Nat) (bl : List BlockS) (hne : bl ≠ []) (hlen : bl.length ≤ 100000) (htg : tgtOK bl) (h : Hp) (hf : FAt h fb regs A c bl) :
    EX Try.prog 11 [.pointer (some ⟨fb, 0, none⟩)] h (fun v h' => ∃ A' c', v = .slice A' (reachedS bl).length c' ∧ SetAt h' A' (reachedS bl) ∧ Old h h' ∧ ∀ a, A' = some a → h.n ≤ a.block) := by
  refine EX.intro (fn := Try.f11) (c := (Try.f11.body.getD .skip)) Try.func11 (by kernel_rfl) Try.ntmps11 (by kernel_rfl) fun π s0 => ?_
  conv => arg 2; whnf
  have hpos : 0 < bl.length := List.length_pos_iff.2 hne
  have hn0 : (0 : Int) ≤ (bl.length : Int) := by omega
  have hn1 : (bl.length : Int) ≤ 1000000 := by omega
  have hd := s0.dom
  obtain ⟨fcs, hF, h3, h5⟩ := hf.hf
  have hFn := s0.dom _ _ hF
  ((with_reducible apply W.seq); repeat (first | ((with_reducible apply RS.assign); exact rfl; exact rfl; exact rfl) | ((with_reducible apply RS.nil); exact mixed; kernel_rfl) | ((with_reducible apply W.reg); kernel_rfl) | ((with_reducible apply thenK_n))))
  ((with_reducible apply W.seq); repeat (first | ((with_reducible apply RS.load1B); exact rfl; exact rfl; exact rfl; exact hF; exact hFn; first | exact h5 | exact h3) | ((with_reducible apply RS.callEx); exact rfl; exact rfl; exact rfl; intro B1 hB1; refine ⟨_, empty_ex _ hn0 hn1 B1, ?_⟩; rintro v H1 π1 ⟨sb, rfl, hs1, ho1, hsb⟩ sH1 hle1) | ((with_reducible apply RS.nilCheck); exact rfl; exact rfl; exact rfl) | ((with_reducible apply RS.move); exact rfl; exact rfl; exact rfl) | ((with_reducible apply RS.assign); exact rfl; exact rfl; exact rfl) | ((with_reducible apply RS.lenSl); exact rfl; exact rfl; exact rfl) | ((with_reducible apply RS.fieldAddr); exact rfl; exact rfl; exact rfl) | ((with_reducible apply RS.nil); exact mixed; kernel_rfl) | ((with_reducible apply W.reg); kernel_rfl) | ((with_reducible apply thenK_n))))
  have hold1 : Old h H1 := hB1.oldH.trans ho1
  replace hF := hold1.up hd _ _ hF
  replace hFn := sH1.dom _ _ hF
  ((with_reducible apply W.seq); repeat (fail))
  ((with_reducible apply W.seq); repeat (first | ((with_reducible apply RS.load1B); exact rfl; exact rfl; exact rfl; exact hF; exact hFn; first | exact h5 | exact h3) | ((with_reducible apply RS.nilCheck); exact rfl; exact rfl; exact rfl) | ((with_reducible apply RS.move); exact rfl; exact rfl; exact rfl) | ((with_reducible apply RS.cmpF); exact rfl; exact rfl; exact rfl; exact rfl; (simp only [cmpN]; omega)) | ((with_reducible apply RS.lenSl); exact rfl; exact rfl; exact rfl) | ((with_reducible apply RS.fieldAddr); exact rfl; exact rfl; exact rfl) | ((with_reducible apply RS.nil); exact mixed; kernel_rfl) | ((with_reducible apply W.reg); kernel_rfl) | ((with_reducible apply W.skip)) | ((with_reducible apply W.condF); kernel_rfl; exact rfl) | ((with_reducible apply thenK_n))))
  ((with_reducible apply W.seq); repeat (first | ((with_reducible apply RS.buildSlice); exact rfl; exact rfl; exact rfl; exact rfl; exact rfl; exact rfl; exact rfl; exact rfl) | ((with_reducible apply RS.store); exact rfl; exact rfl; exact rfl; exact rfl; exact rfl; exact Nat.le_of_ble_eq_true rfl; exact rfl; exact rfl; exact rfl) | ((with_reducible apply RS.alloc); exact rfl; exact rfl) | ((with_reducible apply RS.nil); exact mixed; kernel_rfl) | ((with_reducible apply W.reg); kernel_rfl) | ((with_reducible apply thenK_n))))
  refine W.absorbX fun B2 π2 a2 => ?_
  have hrow0 : B2.m (π1 0) = some ⟨⟨[.int .i64 0]⟩, 3⟩ := a2.loc 0 (Nat.lt_of_lt_of_le Nat.zero_lt_one (Nat.le_succ 1))
  have hwb0 : B2.m (π1 1) = some ⟨⟨[.slice (some ⟨π1 0, 0, none⟩) 1 1]⟩, 32⟩ := a2.loc 1 (Nat.lt_succ_self 1)
  have hr0 : H1.n ≤ π1 0 := a2.lo 0 (Nat.lt_of_lt_of_le Nat.zero_lt_one (Nat.le_succ 1))
  have hw0 : H1.n ≤ π1 1 := a2.lo 1 (Nat.lt_succ_self 1)
  have hw1 : π1 1 < B2.n := a2.hi 1 (Nat.lt_succ_self 1)
  generalize π1 0 = r0 at *
  generalize π1 1 = wb at *
  have hwr : rwM ≤ wb := Nat.le_trans s0.rw (Nat.le_trans hold1.1 hw0)
  have hsbr : rwM ≤ sb := Nat.le_trans s0.rw (Nat.le_trans hB1.le hsb)
  have hs2 : SetAt B2 (some ⟨sb, 0, none⟩) (emptyS (bl.length : Int)) := .some (a2.up _ _ hs1) hsbr
  have hsl : (emptyS (bl.length : Int)).length ≤ 1000000000 := by rw [emptyS_length]; omega
  ((with_reducible apply W.seq); repeat (first | ((with_reducible apply RS.callEx); exact rfl; exact rfl; exact rfl; intro B3 hB3; refine ⟨_, TF.ex (put_tf _ _ _ 0 (by unfold fitI; omega) hsl B3 (setAt_up hs2 hB3.up)), ?_⟩; rintro v H3 π3 ⟨rfl, rfl⟩ sH3 hle3) | ((with_reducible apply RS.move); exact rfl; exact rfl; exact rfl) | ((with_reducible apply RS.nil); exact mixed; kernel_rfl) | ((with_reducible apply W.reg); kernel_rfl) | ((with_reducible apply thenK_n))))
  have hI0 : ReachI h (emptyS (bl.length : Int)).length sb wb (fun _ => False) (putS (emptyS (bl.length : Int)) 0) [0] (setH B3 (some ⟨sb, 0, none⟩) (putS (emptyS (bl.length : Int)) 0)) := by
    have hne : wb ≠ sb := by
      intro e
      have := a2.up _ _ hs1
      rw [← e, hwb0] at this
      simp at this
    have hne2 : r0 ≠ sb := by
      intro e
      have := a2.up _ _ hs1
      rw [← e, hrow0] at this
      simp at this
    refine ⟨?_, ?_, putS_length _ _, some ⟨r0, 0, none⟩, 1, ?_, .row (t := []) ?_ ?_ (.inr ⟨rfl, by decide⟩), ?_⟩
    · have o : OffS (SN (some ⟨sb, 0, none⟩)) h (setH B3 (some ⟨sb, 0, none⟩) (putS (emptyS (bl.length : Int)) 0)) := ((hold1.trans a2.oldH).trans hB3.oldH).off.same (setH_off (setAt_up hs2 hB3.up))
      refine o.old fun i hi e => ?_
      have e : some _ = some _ := e
      injection e with e
      injection e with e
      have : h.n ≤ B1.n := hB1.le
      omega
    · show (if sb = sb then _ else _) = _; rw [if_pos rfl]
    · show (if wb = sb then _ else B3.m wb) = _; rw [if_neg hne]; exact hB3.up _ _ hwb0
    · show (if r0 = sb then _ else B3.m r0) = _; rw [if_neg hne2]; exact hB3.up _ _ hrow0
    · exact Nat.le_trans s0.rw (Nat.le_trans hold1.1 hr0)
    · intro a ha
      injection ha with ha
      rw [← ha]
      exact ⟨Nat.le_trans hold1.1 hr0, id⟩
  have hsln : (emptyS (bl.length : Int)).length = (bl.length + 63) / 64 := by rw [emptyS_length]; omega
  with_reducible apply W.seq
  with_reducible apply W.block
  refine W.loopN (X := Nat × SetS × List Int) (fun x => [(0, .pointer (some ⟨fb, 0, none⟩)), (3, .slice (some ⟨sb, 0, none⟩) (emptyS (bl.length : Int)).length (emptyS (bl.length : Int)).length), (4, .pointer (some ⟨wb, 0, none⟩))])
    (fun x B => ReachI h (emptyS (bl.length : Int)).length sb wb (fun _ => False) x.2.1 x.2.2 B ∧ (∀ k ∈ x.2.2, 0 ≤ k ∧ k < bl.length) ∧ (x.2.2.length + lackS bl.length x.2.1 ≤ x.1 ∧ x.1 ≤ 2 * bl.length + 2) ∧ reachGo bl x.1 x.2.1 x.2.2 = reachedS bl) (fun x => x.1)
    (fun B' a => ⟨(2 * bl.length + 2, putS (emptyS (bl.length : Int)) 0, [0]), ?_, hI0.up sH3.dom a.oldH, ?_, ?_, ?_⟩) ?_
  · (repeat' (first | exact trivial | exact rfl | apply And.intro)); done
  · intro k hk
    simp only [List.mem_singleton] at hk
    omega
  · have : lackS bl.length (putS (emptyS (bl.length : Int)) 0) ≤ bl.length := by
      unfold lackS
      exact Nat.le_trans (List.length_filter_le _ _) (by simp)
    simp only [List.length_singleton]
    exact ⟨by omega, Nat.le_refl _⟩
  · show reachGo bl (2 * bl.length + 2) _ [0] = reachedS bl
    unfold reachedS
    rw [if_neg (by omega)]
  · rintro ⟨m, s, work⟩ B π sB ⟨hI, hwk, ⟨hm, hmm⟩, hgo⟩
    dsimp only at hI hwk hm hmm hgo ⊢
    have hd2 := sB.dom
    obtain ⟨A0, cap, hW, hstk, hA0⟩ := hI.stk
    have hWn := hd2 _ _ hW
    have hsl := hI.hl
    cases work with
    | nil =>
      rw [List.length_nil] at hW
      have hfin : s = reachedS bl := by rw [← hgo]; cases m <;> rfl
      repeat (first | ((with_reducible apply RS.load1B); exact rfl; exact rfl; exact rfl; exact hW; exact hWn; exact rfl) | ((with_reducible apply RS.move); exact rfl; exact rfl; exact rfl) | ((with_reducible apply RS.assign); exact rfl; exact rfl; exact rfl) | ((with_reducible apply RS.cmpF); exact rfl; exact rfl; exact rfl; exact rfl; (simp only [cmpN]; omega)) | ((with_reducible apply RS.lenSl); exact rfl; exact rfl; exact rfl) | ((with_reducible apply RS.nil); exact mixed; kernel_rfl) | ((with_reducible apply W.seq)) | ((with_reducible apply W.reg); kernel_rfl) | ((with_reducible apply W.exit)) | ((with_reducible apply W.ret)) | ((with_reducible apply W.condF); kernel_rfl; exact rfl) | ((with_reducible apply thenK_n)) | ((with_reducible apply thenK_e)) | ((with_reducible apply blockK_hit); exact rfl) | ((with_reducible apply roundN_e)))
      refine endsK_ret _ (.cons (.tmp rfl) .nil) fun B' a => ⟨some ⟨sb, 0, none⟩, _, by rw [← hsl, hfin]; rfl, by rw [← hfin]; exact .some (a.up _ _ hI.hs) hsbr, hI.old.trans a.oldH, fun a ha => ?_⟩
      injection ha with ha
      rw [← ha]
      exact Nat.le_trans hB1.le hsb
    | cons n rest =>
      rw [List.length_cons] at hW
      rw [intsV_cons] at hstk
      obtain ⟨hn0', hn1'⟩ := hwk n (by simp)
      have hrl : (intsV rest).length ≤ 1000000000 := by rw [intsV_length]; simp only [List.length_cons] at hm; omega
      obtain ⟨m', rfl⟩ : ∃ m', m = m' + 1 := ⟨m - 1, by simp at hm; omega⟩
      ((with_reducible apply W.seq); repeat (fail))
      ((with_reducible apply W.seq); repeat (first | ((with_reducible apply RS.load1B); exact rfl; exact rfl; exact rfl; exact hW; exact hWn; exact rfl) | ((with_reducible apply RS.cmpT); exact rfl; exact rfl; exact rfl; exact rfl; (simp only [cmpP]; omega)) | ((with_reducible apply RS.lenSl); exact rfl; exact rfl; exact rfl) | ((with_reducible apply RS.nil); exact mixed; kernel_rfl) | ((with_reducible apply W.reg); kernel_rfl) | ((with_reducible apply W.block)) | ((with_reducible apply W.skip)) | ((with_reducible apply W.condT); kernel_rfl; exact rfl) | ((with_reducible apply thenK_n))))
      ((with_reducible apply W.seq); repeat (first | ((with_reducible apply RS.callEx); exact rfl; exact rfl; exact rfl; intro B4 hB4; refine ⟨_, pop_ex wb A0 cap (intsV rest) n hrl B4 (by rw [intsV_length]; exact hB4.up _ _ hW) hwr (hstk.up hB4.up), ?_⟩; rintro v H4 π4 ⟨rfl, hW4, hstk4, ho4⟩ sH4 hle4) | ((with_reducible apply RS.assign); exact rfl; exact rfl; exact rfl) | ((with_reducible apply RS.nil); exact mixed; kernel_rfl) | ((with_reducible apply W.reg); kernel_rfl) | ((with_reducible apply thenK_n))))
      have hwn : h.n ≤ wb := Nat.le_trans hold1.1 hw0
      have hsn : h.n ≤ sb := Nat.le_trans hB1.le hsb
      have old4 : Old h H4 := ((hI.old.trans hB4.oldH).off.same (ho4.mono (T := fun i => i = wb) fun _ _ e => e)).old fun i hi e => by subst e; omega
      have hs4 : H4.m sb = some ⟨⟨setC s⟩, 78⟩ := by
        rw [ho4.2 sb (hB4.sat.dom _ _ (hB4.up _ _ hI.hs)) (fun e => by
          have := hI.hs
          rw [e, hW] at this
          simp at this)]
        exact hB4.up _ _ hI.hs
      have hf4 := hf.up (old4.up hd)
      obtain ⟨fcs', hF, _, h5⟩ := hf4.hf
      have hFn := sH4.dom _ _ hF
      have hnat : n = (n.toNat : Int) := by omega
      have hnl : n.toNat < bl.length := by omega
      obtain ⟨b, hb⟩ : ∃ b, bl[n.toNat]? = some b := ⟨_, List.getElem?_eq_getElem hnl⟩
      obtain ⟨bb, off, cs, e, rfl, hG, hGl, hGb⟩ := hf4.sl.get _ b hb
      have hGn := sH4.dom _ _ hG
      obtain ⟨Ai, ci, hGb, _⟩ := hGb
      have hGv : takeV (off + n.toNat * 9 + 1) 8 cs = termC b.term := takeV_part (n := 8) hGb (by decide)
      replace hGl : off + n.toNat * 9 + 1 + 8 ≤ cs.length := by omega
      ((with_reducible apply W.seq); repeat (first | ((with_reducible apply RS.load1B); exact rfl; exact rfl; exact rfl; exact hF; exact hFn; first | exact h5 | exact h3) | ((with_reducible apply RS.indexAddrS); exact rfl; exact rfl; exact rfl; exact rfl; exact hnat; omega) | ((with_reducible apply RS.loadNB); exact rfl; exact rfl; exact rfl; exact hG; exact hGn; exact hGl; exact hGv) | ((with_reducible apply RS.callEx); exact rfl; exact rfl; exact rfl; intro B5 hB5; refine ⟨_, next_ex b.term B5, ?_⟩; rintro v H5 π5 ⟨AL, cL, rfl, hrow, ho5, hnewL⟩ sH5 hle5) | ((with_reducible apply RS.nilCheck); exact rfl; exact rfl; exact rfl) | ((with_reducible apply RS.move); exact rfl; exact rfl; exact rfl) | ((with_reducible apply RS.lenSl); exact rfl; exact rfl; exact rfl) | ((with_reducible apply RS.fieldAddr); exact rfl; exact rfl; exact rfl) | ((with_reducible apply RS.nil); exact mixed; kernel_rfl) | ((with_reducible apply W.reg); kernel_rfl) | ((with_reducible apply W.block)) | ((with_reducible apply thenK_n))))
      have old5 : Old H4 H5 := hB5.oldH.trans ho5
      have hWn4 := sH4.dom _ _ hW4
      have hJ0 : ReachI h (emptyS (bl.length : Int)).length sb wb (SN AL) s rest H5 := by
        refine ⟨old4.trans old5, old5.up sH4.dom _ _ hs4, hsl, A0, cap, ?_, hstk4.up (old5.up sH4.dom), fun a ha => ⟨(hA0 a ha).1, fun hx => ?_⟩⟩
        · have := old5.up sH4.dom _ _ hW4
          rwa [intsV_length] at this
        · obtain ⟨r, t, hr1, hr2, _⟩ := stk_lt hstk (by simp)
          rw [ha] at hr1
          injection hr1 with hr1
          subst hr1
          have h1 := hnewL _ hx
          have h2 : r < B4.n := hB4.dom _ _ (hB4.up _ _ hr2)
          have h3 : H4.n ≤ B5.n := hB5.le
          simp only at h1
          omega
      generalize hl : nextS b.term = l at *
      have hlk : ∀ k ∈ l, 0 ≤ k ∧ k < bl.length := fun k hk => htg b (List.mem_of_getElem? hb) k (by rw [hl]; exact hk)
      have hll : l.length ≤ 2 := by
        rw [← hl]
        unfold nextS
        repeat' split
        all_goals simp
      have hnext : nextAt bl n = l := by unfold nextAt; rw [hb]; exact hl
      refine W.loopN (X := Nat × SetS × List Int) (fun x => [(0, .pointer (some ⟨fb, 0, none⟩)), (3, .slice (some ⟨sb, 0, none⟩) (emptyS (bl.length : Int)).length (emptyS (bl.length : Int)).length), (4, .pointer (some ⟨wb, 0, none⟩)), (36, .slice AL l.length cL), (37, .int .i64 (l.length : Int)), (38, .int .i64 (x.1 : Int))])
        (fun x B => x.1 ≤ l.length ∧ ReachI h (emptyS (bl.length : Int)).length sb wb (SN AL) x.2.1 x.2.2 B ∧ IntAt B AL l ∧ (∀ k ∈ x.2.2, 0 ≤ k ∧ k < bl.length) ∧ x.2.2.length + lackS bl.length x.2.1 ≤ m' ∧ reachPush s rest l = reachPush x.2.1 x.2.2 (l.drop x.1)) (fun x => l.length - x.1)
        (fun B' a => ⟨(0, s, rest), ?_, by simp, hJ0.up sH5.dom a.oldH, hrow.up a.up, fun k hk => hwk k (by simp [hk]), ?_, rfl⟩) ?_
      · (repeat' (first | exact trivial | exact rfl | apply And.intro)); done
      · simp only [List.length_cons] at hm ⊢
        omega
      · rintro ⟨j, s1, w1⟩ B8 π8 sB8 ⟨hj, hJ, hIn, hwk1, hm1, hpush⟩
        dsimp only at hj hJ hIn hwk1 hm1 hpush ⊢
        by_cases hjl : j < l.length
        · obtain ⟨k, hk⟩ : ∃ k, l[j]? = some k := ⟨_, List.getElem?_eq_getElem hjl⟩
          rcases hIn with hIn | ⟨nr, rfl, hR⟩
          · rw [hIn] at hjl; exact absurd hjl (Nat.not_lt_zero _)
          have hRn := sB8.dom _ _ hR
          have hRv : (l.map (Value.int .i64))[0 + j * 1]? = some (.int .i64 k) := by simp [hk]
          obtain ⟨hk0, hk1⟩ := hlk k (List.mem_of_getElem? hk)
          have hkf : fitI k := by unfold fitI; omega
          have hsl1 : s1.length ≤ 1000000000 := by rw [hJ.hl, hsln]; omega
          have hs1' : SetAt B8 (some ⟨sb, 0, none⟩) s1 := .some hJ.hs hsbr
          have hdrop : l.drop j = k :: l.drop (j + 1) := by
            obtain ⟨h1, h2⟩ := List.getElem?_eq_some_iff.1 hk
            rw [List.drop_eq_getElem_cons h1, h2]
          rw [hdrop] at hpush
          obtain ⟨A1, cap1, hW1, hst1, hA1⟩ := hJ.stk
          rw [← intsV_length w1] at hW1
          have hneW : A1 ≠ some ⟨wb, 0, none⟩ := stk_ne hst1 hW1 (by simp)
          have hneN : A1 ≠ some ⟨nr, 0, none⟩ := fun e => (hA1 _ e).2 rfl
          have hneS : A1 ≠ some ⟨sb, 0, none⟩ := stk_ne hst1 hJ.hs (by simp)
          rw [← hJ.hl]
          repeat (first | ((with_reducible apply RS.load1B); exact rfl; exact rfl; exact rfl; exact hR; exact hRn; exact hRv) | ((with_reducible apply RS.indexAddrS); exact rfl; exact rfl; exact rfl; exact rfl; exact rfl; omega) | ((with_reducible apply RS.callA); exact rfl; exact rfl; exact rfl; exact fun B6 hB6 => has_tf s1 _ _ k hkf hsl1 B6 (setAt_up hs1' hB6.up)) | ((with_reducible apply RS.move); exact rfl; exact rfl; exact rfl) | ((with_reducible apply RS.assign); exact rfl; exact rfl; exact rfl) | ((with_reducible apply RS.cmpT); exact rfl; exact rfl; exact rfl; exact rfl; (simp only [cmpP]; omega)) | ((with_reducible apply RS.not); exact rfl; exact rfl; exact rfl) | ((with_reducible apply RS.nil); exact mixed; kernel_rfl) | ((with_reducible apply W.seq)) | ((with_reducible apply W.reg); kernel_rfl) | ((with_reducible apply W.block)) | ((with_reducible apply W.skip)) | ((with_reducible apply W.condT); kernel_rfl; exact rfl) | ((with_reducible apply thenK_n)))
          repeat' ((first | (((with_reducible apply RS.splitD); exact rfl; exact rfl) <;> intro _) | ((((with_reducible apply RS.splitG); exact rfl; exact rfl) <;> intro _) <;> (fail_if_success (exact absurd ‹true = false› (by decide))) <;> (fail_if_success (exact absurd ‹false = true› (by decide)))) | (((with_reducible apply W.condD); exact rfl) <;> intro _) | ((((with_reducible apply W.cond); exact rfl) <;> intro _) <;> (fail_if_success (exact absurd ‹true = false› (by decide))) <;> (fail_if_success (exact absurd ‹false = true› (by decide))))) <;> repeat (first | ((with_reducible apply RS.buildSlice); exact rfl; exact rfl; exact rfl; exact rfl; exact rfl; exact rfl; exact rfl; exact rfl) | ((with_reducible apply RS.callEx); exact rfl; exact rfl; exact rfl; intro B6 hB6; refine ⟨_, TF.ex (put_tf s1 _ _ k hkf hsl1 B6 (setAt_up hs1' hB6.up)), ?_⟩; rintro v H6 π6 ⟨rfl, rfl⟩ sH6 hle6; have hs6 := setAt_up hs1' hB6.up; have hW6 := setH_keep (s' := putS s1 k) hs6 (hB6.up _ _ hW1) (by simp); have hW6n := sH6.dom _ _ hW6; have hst6 := setH_stk (s' := putS s1 k) hs6 (hst1.up hB6.up)) | ((with_reducible apply RS.load1B); exact rfl; exact rfl; exact rfl; exact hW6; exact hW6n; exact rfl) | ((with_reducible apply RS.pushStk (vs := intsV w1)); exact rfl; exact rfl; exact rfl; exact rfl; exact rfl; exact fun B hB => ⟨hB.loc 0 (Nat.lt_succ_self 0), hst6.up hB.up⟩; exact rfl; (simp only [intsV_length]; omega); (simp only [intsV_length]; omega); intro B7 hB7 A7 cap7 H7 π7 sH7 hst7 hle7 hoff7 hA7; have hW7 := (hoff7 wb (hB7.dom _ _ (hB7.up _ _ hW6)) hneW).trans (hB7.up _ _ hW6); have hW7n := sH7.dom _ _ hW7) | ((with_reducible apply RS.storeB); exact rfl; exact rfl; exact rfl; exact hW7; exact hW7n; exact hwr; exact Nat.le_of_ble_eq_true rfl; exact rfl; exact rfl; exact rfl) | ((with_reducible apply RS.move); exact rfl; exact rfl; exact rfl) | ((with_reducible apply RS.add1); exact rfl; exact rfl; exact rfl; exact rfl; omega) | ((with_reducible apply RS.nil); exact mixed; kernel_rfl) | ((with_reducible apply W.seq)) | ((with_reducible apply W.reg); kernel_rfl) | ((with_reducible apply W.skip)) | ((with_reducible apply thenK_n)) | ((with_reducible apply blockK_n))))
          · have hput : (putS s1 k).length = s1.length := putS_length _ _
            have hno : hasS s1 k = false := by simpa using ‹(!hasS s1 k) = true›
            have hnrw : nr ≠ wb := by
              intro e
              subst e
              rw [hR] at hW1
              simp at hW1
            have hsbw : sb ≠ wb := by
              intro e
              have := hJ.hs
              rw [e, hW1] at this
              simp at this
            have h8 : B8.n ≤ B7.n := Nat.le_trans hB6.le hB7.le
            refine roundN_n rfl fun B' a => ⟨(j + 1, putS s1 k, k :: w1), ?_, ⟨by omega, ⟨?_, ?_, hput, A7, cap7, ?_, ?_, ?_⟩, ?_, ?_, ?_, ?_⟩, by omega⟩
            · (repeat' (first | exact trivial | exact rfl | apply And.intro)); done
            · have o1 : OffS (fun i => h.n ≤ i) h B7 := ((hJ.old.trans hB6.oldH).off.same ((setH_off hs6).mono fun i _ e => by
                have e : some _ = some _ := e
                injection e with e
                injection e with e
                rw [← e]; exact hsn)).same hB7.oldH.off
              have o2 : OffS (fun i => h.n ≤ i) B7 H7 := ⟨hle7, fun i hi hn => hoff7 i hi fun e => hn (hA1 _ e).1⟩
              have o3 : OffS (fun i => h.n ≤ i) H7 B' := ((OffS.set H7 wb _).mono fun i _ e => by rw [e]; exact hwn).same a.oldH.off
              exact ((o1.same o2).same o3).old fun i hi hn => by omega
            · refine a.up _ _ ?_
              show (if sb = wb then _ else H7.m sb) = _
              have hs6' : (setH B6 (some ⟨sb, 0, none⟩) (putS s1 k)).m sb = some ⟨⟨setC (putS s1 k)⟩, 78⟩ := by show (if sb = sb then _ else _) = _; rw [if_pos rfl]
              have hs7 := hB7.up _ _ hs6'
              rw [if_neg hsbw, hoff7 sb (hB7.dom _ _ hs7) hneS]
              exact hs7
            · refine a.up _ _ ?_
              show (if wb = wb then _ else H7.m wb) = _
              rw [if_pos rfl, intsV_length]; rfl
            · rw [intsV_cons]
              have hst8 : StkRow (H7.set wb ⟨⟨[.slice A7 ((intsV w1).length + 1) cap7]⟩, 32⟩) 3 A7 cap7 (intsV w1 ++ [.int .i64 k]) := by
                obtain ⟨r, t, rfl, hr1, hr2, hr3⟩ := stk_lt hst7 (by simp)
                refine .row (t := t) ?_ hr2 hr3
                have hrw : r ≠ wb := by
                  intro e
                  subst e
                  rw [hW7] at hr1
                  simp at hr1
                show (if r = wb then _ else H7.m r) = _
                rw [if_neg hrw]; exact hr1
              exact hst8.up a.up
            · intro a' ha'
              rcases hA7 a' ha' with e | e
              · exact hA1 _ e
              · refine ⟨Nat.le_trans hJ.old.1 (Nat.le_trans h8 e), fun hx => ?_⟩
                have hx : some _ = some _ := hx
                injection hx with hx
                injection hx with hx
                omega
            · refine .inr ⟨nr, rfl, a.up _ _ ?_⟩
              show (if nr = wb then _ else H7.m nr) = _
              have hr7 := hB7.up _ _ (setH_keep (s' := putS s1 k) hs6 (hB6.up _ _ hR) (by simp))
              rw [if_neg hnrw, hoff7 nr (hB7.dom _ _ hr7) hneN]
              exact hr7
            · intro k' hk'
              rcases List.mem_cons.1 hk' with e | e
              · rw [e]; exact ⟨hk0, hk1⟩
              · exact hwk1 k' e
            · have := lackS_put (n := bl.length) hk0 hk1 hno (by rw [hJ.hl, hsln]; omega)
              simp only [List.length_cons]
              omega
            · rw [hpush, reachPush, if_neg (by rw [hno]; simp)]
          · refine roundN_n rfl fun B' a => ⟨(j + 1, s1, w1), ?_, ⟨by omega, ?_, ?_, hwk1, hm1, ?_⟩, by omega⟩
            · (repeat' (first | exact trivial | exact rfl | apply And.intro)); done
            · rw [hJ.hl]; exact hJ.up sB8.dom a.oldH
            · exact .inr ⟨nr, rfl, a.up _ _ hR⟩
            · rw [hpush, reachPush, if_pos (by simpa using ‹(!hasS s1 k) = false›)]
        · have hjj : l.drop j = [] := List.drop_eq_nil_of_le (by omega)
          rw [hjj] at hpush
          repeat (first | ((with_reducible apply RS.cmpF); exact rfl; exact rfl; exact rfl; exact rfl; (simp only [cmpN]; omega)) | ((with_reducible apply RS.nil); exact mixed; kernel_rfl) | ((with_reducible apply W.seq)) | ((with_reducible apply W.reg); kernel_rfl) | ((with_reducible apply W.exit)) | ((with_reducible apply W.condF); kernel_rfl; exact rfl) | ((with_reducible apply thenK_n)) | ((with_reducible apply thenK_e)) | ((with_reducible apply blockK_n)) | ((with_reducible apply blockK_hit); exact rfl) | ((with_reducible apply roundN_e)))
          refine roundN_n rfl fun B' a => ⟨(m', s1, w1), ?_, ⟨?_, hwk1, ⟨hm1, by omega⟩, ?_⟩, by omega⟩
          · (repeat' (first | exact trivial | exact rfl | apply And.intro)); done
          · obtain ⟨A1, cap1, hW1, hst1, hA1⟩ := hJ.stk
            exact ⟨hJ.old.trans a.oldH, a.up _ _ hJ.hs, hJ.hl, A1, cap1, a.up _ _ hW1, hst1.up a.up, fun a ha => ⟨(hA1 a ha).1, id⟩⟩
          · rw [← hgo, reachGo, hnext, hpush]; rfl
end Go.Proofs.Ytjhloakacicdiaa
namespace Go.Proofs.Ytjhloakacicdiaa
open Go.AH
attribute [local irreducible] W RS
theorem throughGo_ok {bl : List BlockS} (ht : tgtOK bl) : ∀ (n : Nat) (k : Int), 0 ≤ k ∧ k < bl.length → 0 ≤ throughGo bl n k ∧ throughGo bl n k < bl.length := by
  intro n
  induction n with
  | zero => intro k hk; exact hk
  | succ n ih =>
    intro k hk
    unfold throughGo
    split
    · rename_i b hb
      split
      · exact hk
      · rename_i hc
        rw [not_or] at hc
        refine ih _ (ht b (List.mem_of_getElem? hb) _ ?_)
        unfold nextS
        rw [if_pos (by omega)]
        simp
    · exact hk
set_option maxRecDepth 100000 in
theorem through_tf (fb : Nat) (regs : Int) (A : Option Addr) (c : Nat) (bl : List BlockS) (k0 : Int) (hk0 : 0 ≤ k0 ∧ k0 < bl.length) (hlen : bl.length ≤ 100000) (hins : ∀ b ∈ bl, b.ins.length ≤ 1000000) (htg : tgtOK bl) (h : Hp) (hf : FAt h fb regs A c bl) :
    TF Try.prog 27 ⟨[.pointer (some ⟨fb, 0, none⟩), .int .i64 k0]⟩ h (.int .i64 (throughS bl k0)) h := by
  refine TF.exact (fn := Try.f27) (c := (Try.f27.body.getD .skip)) Try.func27 (by kernel_rfl) Try.ntmps27 (by kernel_rfl) (fun s0 => ⟨Nat.le_refl _, by simp, fun i b hb => ⟨s0.dom i b hb, s0.bd i b hb⟩⟩) fun π s0 => ?_
  conv => arg 2; whnf
  have hd := s0.dom
  obtain ⟨fcs, hF, _, h5⟩ := hf.hf
  have hFn := s0.dom _ _ hF
  repeat (first | ((with_reducible apply RS.load1B); exact rfl; exact rfl; exact rfl; exact hF; exact hFn; exact h5) | ((with_reducible apply RS.nilCheck); exact rfl; exact rfl; exact rfl) | ((with_reducible apply RS.move); exact rfl; exact rfl; exact rfl) | ((with_reducible apply RS.assign); exact rfl; exact rfl; exact rfl) | ((with_reducible apply RS.lenSl); exact rfl; exact rfl; exact rfl) | ((with_reducible apply RS.fieldAddr); exact rfl; exact rfl; exact rfl) | ((with_reducible apply RS.nil); exact mixed; kernel_rfl) | ((with_reducible apply W.seq)) | ((with_reducible apply W.reg); kernel_rfl) | ((with_reducible apply W.block)) | ((with_reducible apply thenK_n)))
  refine W.loopN (X := Nat × Int) (fun x => [(0, .pointer (some ⟨fb, 0, none⟩)), (1, .int .i64 x.2), (10, .int .i64 (bl.length : Int)), (11, .int .i64 (x.1 : Int))])
    (fun x B => Old h B ∧ x.1 ≤ bl.length ∧ (0 ≤ x.2 ∧ x.2 < bl.length) ∧ throughGo bl (bl.length - x.1) x.2 = throughS bl k0) (fun x => bl.length - x.1) (fun B' a => ⟨(0, k0), ?_, a.oldH, by simp, hk0, rfl⟩) ?_
  · (repeat' (first | exact trivial | exact rfl | apply And.intro)); done
  · rintro ⟨i, k⟩ B π sB ⟨hold, hi, ⟨hk, hk2⟩, hgo⟩
    dsimp only at hold hi hk hk2 hgo ⊢
    have hf4 := hf.up (hold.up hd)
    obtain ⟨fcs', hF, _, h5⟩ := hf4.hf
    have hFn := sB.dom _ _ hF
    by_cases hlt : i < bl.length
    · have hnat : k = (k.toNat : Int) := by omega
      have hnl : k.toNat < bl.length := by omega
      obtain ⟨b, hb⟩ : ∃ b, bl[k.toNat]? = some b := ⟨_, List.getElem?_eq_getElem hnl⟩
      obtain ⟨bb, off, cs, e, rfl, hG, hGl, hGb⟩ := hf4.sl.get _ b hb
      have hGn := sB.dom _ _ hG
      obtain ⟨Ai, ci, hGb, _⟩ := hGb
      have hbi := hins b (List.mem_of_getElem? hb)
      obtain ⟨m, hm⟩ : ∃ m, bl.length - i = m + 1 := ⟨bl.length - i - 1, by omega⟩
      rw [hm, throughGo, hb] at hgo
      simp only at hgo
      by_cases hc : b.ins.length > 0 ∨ b.term.kind ≠ 1
      · rw [if_pos hc] at hgo
        repeat (first | ((with_reducible apply RS.load1B); exact rfl; exact rfl; exact rfl; exact hF; exact hFn; exact h5) | ((with_reducible apply RS.indexAddrS); exact rfl; exact rfl; exact rfl; exact rfl; exact hnat; omega) | ((with_reducible apply RS.loadNB); exact rfl; exact rfl; exact rfl; exact hG; exact hGn; exact hGl; exact hGb) | ((with_reducible apply RS.nilCheck); exact rfl; exact rfl; exact rfl) | ((with_reducible apply RS.move); exact rfl; exact rfl; exact rfl) | ((with_reducible apply RS.cmpT); exact rfl; exact rfl; exact rfl; exact rfl; (simp only [cmpP]; omega)) | ((with_reducible apply RS.cmpC); exact rfl; exact rfl; exact rfl; exact rfl; exact rfl) | ((with_reducible apply RS.lenSl); exact rfl; exact rfl; exact rfl) | ((with_reducible apply RS.fieldAddr); exact rfl; exact rfl; exact rfl) | ((with_reducible apply RS.load1); exact rfl; exact rfl; exact rfl; exact rfl; exact rfl; exact rfl) | ((with_reducible apply RS.store); exact rfl; exact rfl; exact rfl; exact rfl; exact rfl; exact Nat.le_of_ble_eq_true rfl; exact rfl; exact rfl; exact rfl) | ((with_reducible apply RS.alloc); exact rfl; exact rfl) | ((with_reducible apply RS.nil); exact mixed; kernel_rfl) | ((with_reducible apply W.seq)) | ((with_reducible apply W.reg); kernel_rfl) | ((with_reducible apply W.block)) | ((with_reducible apply W.skip)) | ((with_reducible apply W.condT); kernel_rfl; exact rfl) | ((with_reducible apply thenK_n)))
        repeat' ((first | (((with_reducible apply RS.splitD); exact rfl; exact rfl) <;> intro _) | ((((with_reducible apply RS.splitG); exact rfl; exact rfl) <;> intro _) <;> (fail_if_success (exact absurd ‹true = false› (by decide))) <;> (fail_if_success (exact absurd ‹false = true› (by decide)))) | (((with_reducible apply W.condD); exact rfl) <;> intro _) | ((((with_reducible apply W.cond); exact rfl) <;> intro _) <;> (fail_if_success (exact absurd ‹true = false› (by decide))) <;> (fail_if_success (exact absurd ‹false = true› (by decide))))) <;> repeat (first | ((with_reducible apply RS.move); exact rfl; exact rfl; exact rfl) | ((with_reducible apply RS.assign); exact rfl; exact rfl; exact rfl) | ((with_reducible apply RS.pickT); exact rfl; exact rfl; exact rfl; exact rfl) | ((with_reducible apply RS.pickF); exact rfl; exact rfl; exact rfl; exact rfl) | ((with_reducible apply RS.cmpT); exact rfl; exact rfl; exact rfl; exact rfl; (simp only [cmpP]; omega)) | ((with_reducible apply RS.fieldAddr); exact rfl; exact rfl; exact rfl) | ((with_reducible apply RS.load1); exact rfl; exact rfl; exact rfl; exact rfl; exact rfl; exact rfl) | ((with_reducible apply RS.skip); exact rfl; exact rfl) | ((with_reducible apply RS.nil); exact mixed; kernel_rfl) | ((with_reducible apply W.seq)) | ((with_reducible apply W.reg); kernel_rfl) | ((with_reducible apply W.exit)) | ((with_reducible apply W.ret)) | ((with_reducible apply W.condT); kernel_rfl; exact rfl) | ((with_reducible apply thenK_n)) | ((with_reducible apply thenK_e)) | ((with_reducible apply blockK_hit); exact rfl) | ((with_reducible apply blockK_miss); exact rfl) | ((with_reducible apply roundN_e))))
        all_goals first
          | exact endsK_ret _ (.cons (.tmp rfl) .nil) fun B' a => ⟨by rw [← hgo]; rfl, fun j x hj => a.up _ _ (hold.up hd _ _ hj)⟩
          | (exfalso; omega)
      · rw [if_neg hc] at hgo
        rw [not_or] at hc
        obtain ⟨hc1, hc2⟩ := hc
        have hmn : m = bl.length - (i + 1) := by omega
        have htk := htg b (List.mem_of_getElem? hb) b.term.goto (by unfold nextS; rw [if_pos (by omega)]; simp)
        repeat (first | ((with_reducible apply RS.load1B); exact rfl; exact rfl; exact rfl; exact hF; exact hFn; exact h5) | ((with_reducible apply RS.indexAddrS); exact rfl; exact rfl; exact rfl; exact rfl; exact hnat; omega) | ((with_reducible apply RS.loadNB); exact rfl; exact rfl; exact rfl; exact hG; exact hGn; exact hGl; exact hGb) | ((with_reducible apply RS.nilCheck); exact rfl; exact rfl; exact rfl) | ((with_reducible apply RS.move); exact rfl; exact rfl; exact rfl) | ((with_reducible apply RS.assign); exact rfl; exact rfl; exact rfl) | ((with_reducible apply RS.pickF); exact rfl; exact rfl; exact rfl; exact rfl) | ((with_reducible apply RS.cmpT); exact rfl; exact rfl; exact rfl; exact rfl; (simp only [cmpP]; omega)) | ((with_reducible apply RS.cmpF); exact rfl; exact rfl; exact rfl; exact rfl; (simp only [cmpN]; omega)) | ((with_reducible apply RS.add1); exact rfl; exact rfl; exact rfl; exact rfl; omega) | ((with_reducible apply RS.lenSl); exact rfl; exact rfl; exact rfl) | ((with_reducible apply RS.fieldAddr); exact rfl; exact rfl; exact rfl) | ((with_reducible apply RS.load1); exact rfl; exact rfl; exact rfl; exact rfl; exact rfl; exact rfl) | ((with_reducible apply RS.store); exact rfl; exact rfl; exact rfl; exact rfl; exact rfl; exact Nat.le_of_ble_eq_true rfl; exact rfl; exact rfl; exact rfl) | ((with_reducible apply RS.alloc); exact rfl; exact rfl) | ((with_reducible apply RS.nil); exact mixed; kernel_rfl) | ((with_reducible apply W.seq)) | ((with_reducible apply W.reg); kernel_rfl) | ((with_reducible apply W.block)) | ((with_reducible apply W.skip)) | ((with_reducible apply W.condT); kernel_rfl; exact rfl) | ((with_reducible apply W.condF); kernel_rfl; exact rfl) | ((with_reducible apply thenK_n)) | ((with_reducible apply blockK_n)))
        repeat' ((first | (((with_reducible apply RS.splitD); exact rfl; exact rfl) <;> intro _) | ((((with_reducible apply RS.splitG); exact rfl; exact rfl) <;> intro _) <;> (fail_if_success (exact absurd ‹true = false› (by decide))) <;> (fail_if_success (exact absurd ‹false = true› (by decide)))) | (((with_reducible apply W.condD); exact rfl) <;> intro _) | ((((with_reducible apply W.cond); exact rfl) <;> intro _) <;> (fail_if_success (exact absurd ‹true = false› (by decide))) <;> (fail_if_success (exact absurd ‹false = true› (by decide))))) <;> repeat (fail))
        all_goals first
          | (refine roundN_n rfl fun B' a => ⟨(i + 1, b.term.goto), ?_, ⟨hold.trans a.oldH, by omega, htk, by rw [← hmn]; exact hgo⟩, by omega⟩; (repeat' (first | exact trivial | exact rfl | apply And.intro)); done)
          | (exfalso; omega)
    · have hz : bl.length - i = 0 := by omega
      rw [hz, throughGo] at hgo
      repeat (first | ((with_reducible apply RS.move); exact rfl; exact rfl; exact rfl) | ((with_reducible apply RS.assign); exact rfl; exact rfl; exact rfl) | ((with_reducible apply RS.cmpF); exact rfl; exact rfl; exact rfl; exact rfl; (simp only [cmpN]; omega)) | ((with_reducible apply RS.nil); exact mixed; kernel_rfl) | ((with_reducible apply W.seq)) | ((with_reducible apply W.reg); kernel_rfl) | ((with_reducible apply W.exit)) | ((with_reducible apply W.ret)) | ((with_reducible apply W.condF); kernel_rfl; exact rfl) | ((with_reducible apply thenK_n)) | ((with_reducible apply thenK_e)) | ((with_reducible apply blockK_hit); exact rfl) | ((with_reducible apply roundN_e)))
      exact endsK_ret _ (.cons (.tmp rfl) .nil) fun B' a => ⟨by rw [← hgo]; rfl, fun j x hj => a.up _ _ (hold.up hd _ _ hj)⟩
theorem countAt_drop {r : SetS} {k : Int} : ∀ {bl : List BlockS} {i j : Nat} {b : BlockS}, bl[i]? = some b → countAt r k j (bl.drop i) = (if hasS r (j : Int) = true then (nextS b.term).count k else 0) + countAt r k (j + 1) (bl.drop (i + 1)) := by
  intro bl i j b hb
  obtain ⟨h1, h2⟩ := List.getElem?_eq_some_iff.1 hb
  rw [List.drop_eq_getElem_cons h1, h2]
  rfl
theorem nextS_len (t : TermS) : (nextS t).length ≤ 2 := by
  unfold nextS
  repeat' split
  all_goals simp
theorem countAt_le {r : SetS} {k : Int} : ∀ {bl : List BlockS} {j : Nat}, countAt r k j bl ≤ 2 * bl.length := by
  intro bl
  induction bl with
  | nil => intro j; simp [countAt]
  | cons b bl ih =>
    intro j
    have h1 := ih (j := j + 1)
    have h2 : (nextS b.term).count k ≤ 2 := Nat.le_trans (List.count_le_length) (nextS_len _)
    rw [countAt, List.length_cons]
    split <;> omega
set_option maxRecDepth 100000 in
theorem count_tf (fb : Nat) (regs : Int) (A : Option Addr) (c : Nat) (bl : List BlockS) (r : SetS) (Ar : Option Addr) (cr : Nat) (k : Int) (hlen : bl.length ≤ 100000) (hrl : r.length ≤ 1000000000) (h : Hp) (hf : FAt h fb regs A c bl) (hr : SetAt h Ar r) :
    TF Try.prog 45 ⟨[.pointer (some ⟨fb, 0, none⟩), .slice Ar r.length cr, .int .i64 k]⟩ h (.int .i64 (countS bl r k : Int)) h := by
  refine TF.exact (fn := Try.f45) (c := (Try.f45.body.getD .skip)) Try.func45 (by kernel_rfl) Try.ntmps45 (by kernel_rfl) (fun s0 => ⟨Nat.le_refl _, by simp, fun i b hb => ⟨s0.dom i b hb, s0.bd i b hb⟩⟩) fun π s0 => ?_
  conv => arg 2; whnf
  have hd := s0.dom
  obtain ⟨fcs, hF, _, h5⟩ := hf.hf
  have hFn := s0.dom _ _ hF
  repeat (first | ((with_reducible apply RS.load1B); exact rfl; exact rfl; exact rfl; exact hF; exact hFn; exact h5) | ((with_reducible apply RS.nilCheck); exact rfl; exact rfl; exact rfl) | ((with_reducible apply RS.move); exact rfl; exact rfl; exact rfl) | ((with_reducible apply RS.assign); exact rfl; exact rfl; exact rfl) | ((with_reducible apply RS.lenSl); exact rfl; exact rfl; exact rfl) | ((with_reducible apply RS.fieldAddr); exact rfl; exact rfl; exact rfl) | ((with_reducible apply RS.nil); exact mixed; kernel_rfl) | ((with_reducible apply W.seq)) | ((with_reducible apply W.reg); kernel_rfl) | ((with_reducible apply W.block)) | ((with_reducible apply thenK_n)))
  refine W.loopN (X := Nat × Nat) (fun x => [(1, .slice Ar r.length cr), (2, .int .i64 k), (7, .int .i64 (x.2 : Int)), (15, .slice A bl.length c), (16, .int .i64 (bl.length : Int)), (17, .int .i64 (x.1 : Int))])
    (fun x B => Old h B ∧ x.1 ≤ bl.length ∧ x.2 + countAt r k x.1 (bl.drop x.1) = countS bl r k) (fun x => bl.length - x.1) (fun B' a => ⟨(0, 0), ?_, a.oldH, by simp, by simp [countS]⟩) ?_
  · (repeat' (first | exact trivial | exact rfl | apply And.intro)); done
  · rintro ⟨i, n⟩ B π sB ⟨hold, hi, hgo⟩
    dsimp only at hold hi hgo ⊢
    have hf4 := hf.up (hold.up hd)
    have hrB := setAt_up hr (hold.up hd)
    by_cases hlt : i < bl.length
    · obtain ⟨b, hb⟩ : ∃ b, bl[i]? = some b := ⟨_, List.getElem?_eq_getElem hlt⟩
      obtain ⟨bb, off, cs, e, rfl, hG, hGl, hGb⟩ := hf4.sl.get _ b hb
      have hGn := sB.dom _ _ hG
      obtain ⟨Ai, ci, hGb, _⟩ := hGb
      rw [countAt_drop hb] at hgo
      have hif : fitI (i : Int) := by unfold fitI; omega
      ((with_reducible apply W.seq); repeat (first | ((with_reducible apply RS.cmpT); exact rfl; exact rfl; exact rfl; exact rfl; (simp only [cmpP]; omega)) | ((with_reducible apply RS.nil); exact mixed; kernel_rfl) | ((with_reducible apply W.reg); kernel_rfl) | ((with_reducible apply thenK_n))))
      ((with_reducible apply W.seq); repeat (first | ((with_reducible apply W.skip)) | ((with_reducible apply W.condT); kernel_rfl; exact rfl) | ((with_reducible apply thenK_n))))
      ((with_reducible apply W.seq); repeat (first | ((with_reducible apply W.block))))
      ((with_reducible apply W.seq); repeat (first | ((with_reducible apply RS.loadNB); exact rfl; exact rfl; exact rfl; exact hG; exact hGn; exact hGl; exact hGb) | ((with_reducible apply RS.indexAddrS); exact rfl; exact rfl; exact rfl; exact rfl; exact rfl; omega) | ((with_reducible apply RS.move); exact rfl; exact rfl; exact rfl) | ((with_reducible apply RS.assign); exact rfl; exact rfl; exact rfl) | ((with_reducible apply RS.store); exact rfl; exact rfl; exact rfl; exact rfl; exact rfl; exact Nat.le_of_ble_eq_true rfl; exact rfl; exact rfl; exact rfl) | ((with_reducible apply RS.alloc); exact rfl; exact rfl) | ((with_reducible apply RS.nil); exact mixed; kernel_rfl) | ((with_reducible apply W.reg); kernel_rfl) | ((with_reducible apply thenK_n))))
      refine W.absorbX fun B2 π2 a2 => ?_
      have hq : B2.m (π 0) = some ⟨⟨blockC b Ai ci⟩, 47⟩ := a2.loc 0 (Nat.lt_succ_self 0)
      have hold2 : Old B B2 := a2.oldH
      generalize π 0 = q at *
      have hqn := a2.dom _ _ hq
      replace hrB := setAt_up hrB (hold2.up sB.dom)
      cases hh : hasS r (i : Int) with
      | false =>
        rw [hh] at hgo
        simp only [Bool.false_eq_true, if_false, Nat.zero_add] at hgo
        repeat (first | ((with_reducible apply RS.callA); exact rfl; exact rfl; exact rfl; exact fun B6 hB6 => has_tf r _ _ (i : Int) hif hrl B6 (setAt_up hrB hB6.up)) | ((with_reducible apply RS.move); exact rfl; exact rfl; exact rfl) | ((with_reducible apply RS.not); exact rfl; exact rfl; exact rfl) | ((with_reducible apply RS.nil); exact mixed; kernel_rfl) | ((with_reducible apply W.seq)) | ((with_reducible apply W.reg); kernel_rfl) | ((with_reducible apply thenK_n)))
        repeat' ((first | (((with_reducible apply RS.splitD); exact rfl; exact rfl) <;> intro _) | ((((with_reducible apply RS.splitG); exact rfl; exact rfl) <;> intro _) <;> (fail_if_success (exact absurd ‹true = false› (by decide))) <;> (fail_if_success (exact absurd ‹false = true› (by decide)))) | (((with_reducible apply W.condD); exact rfl) <;> intro _) | ((((with_reducible apply W.cond); exact rfl) <;> intro _) <;> (fail_if_success (exact absurd ‹true = false› (by decide))) <;> (fail_if_success (exact absurd ‹false = true› (by decide))))) <;> repeat (first | ((with_reducible apply RS.callEx); exact rfl; exact rfl; exact rfl; intro B5 hB5; refine ⟨_, next_ex b.term B5, ?_⟩; rintro v H5 π5 ⟨AL, cL, rfl, hrow, ho5, hnewL⟩ sH5 hle5) | ((with_reducible apply RS.loadNB); exact rfl; exact rfl; exact rfl; exact hq; exact hqn; exact Nat.le_of_ble_eq_true rfl; exact rfl) | ((with_reducible apply RS.move); exact rfl; exact rfl; exact rfl) | ((with_reducible apply RS.add1); exact rfl; exact rfl; exact rfl; exact rfl; omega) | ((with_reducible apply RS.lenSl); exact rfl; exact rfl; exact rfl) | ((with_reducible apply RS.fieldAddr); exact rfl; exact rfl; exact rfl) | ((with_reducible apply RS.nil); exact mixed; kernel_rfl) | ((with_reducible apply W.seq)) | ((with_reducible apply W.reg); kernel_rfl) | ((with_reducible apply W.block)) | ((with_reducible apply W.exit)) | ((with_reducible apply W.skip)) | ((with_reducible apply thenK_n)) | ((with_reducible apply thenK_e)) | ((with_reducible apply blockK_hit); exact rfl)))
        all_goals first
          | exact absurd ‹(!hasS r (i : Int)) = false› (by rw [hh]; decide)
          | (refine roundN_n rfl fun B' a => ⟨(i + 1, n), ?_, ⟨(hold.trans hold2).trans a.oldH, by omega, hgo⟩, ?_⟩; · (repeat' (first | exact trivial | exact rfl | apply And.intro)); done
             · show bl.length - (i + 1) < bl.length - i; omega)
      | true =>
        rw [hh] at hgo
        simp only [if_true] at hgo
        ((with_reducible apply W.seq); repeat (fail))
        ((with_reducible apply W.seq); repeat (first | ((with_reducible apply RS.callA); exact rfl; exact rfl; exact rfl; exact fun B6 hB6 => has_tf r _ _ (i : Int) hif hrl B6 (setAt_up hrB hB6.up)) | ((with_reducible apply RS.move); exact rfl; exact rfl; exact rfl) | ((with_reducible apply RS.not); exact rfl; exact rfl; exact rfl) | ((with_reducible apply RS.nil); exact mixed; kernel_rfl) | ((with_reducible apply W.reg); kernel_rfl) | ((with_reducible apply thenK_n))))
        repeat' ((first | (((with_reducible apply RS.splitD); exact rfl; exact rfl) <;> intro _) | ((((with_reducible apply RS.splitG); exact rfl; exact rfl) <;> intro _) <;> (fail_if_success (exact absurd ‹true = false› (by decide))) <;> (fail_if_success (exact absurd ‹false = true› (by decide)))) | (((with_reducible apply W.condD); exact rfl) <;> intro _) | ((((with_reducible apply W.cond); exact rfl) <;> intro _) <;> (fail_if_success (exact absurd ‹true = false› (by decide))) <;> (fail_if_success (exact absurd ‹false = true› (by decide))))) <;> repeat (first | ((with_reducible apply RS.callEx); exact rfl; exact rfl; exact rfl; intro B5 hB5; refine ⟨_, next_ex b.term B5, ?_⟩; rintro v H5 π5 ⟨AL, cL, rfl, hrow, ho5, hnewL⟩ sH5 hle5) | ((with_reducible apply RS.loadNB); exact rfl; exact rfl; exact rfl; exact hq; exact hqn; exact Nat.le_of_ble_eq_true rfl; exact rfl) | ((with_reducible apply RS.move); exact rfl; exact rfl; exact rfl) | ((with_reducible apply RS.add1); exact rfl; exact rfl; exact rfl; exact rfl; omega) | ((with_reducible apply RS.lenSl); exact rfl; exact rfl; exact rfl) | ((with_reducible apply RS.fieldAddr); exact rfl; exact rfl; exact rfl) | ((with_reducible apply RS.nil); exact mixed; kernel_rfl) | ((with_reducible apply W.seq)) | ((with_reducible apply W.reg); kernel_rfl) | ((with_reducible apply W.block)) | ((with_reducible apply W.exit)) | ((with_reducible apply W.skip)) | ((with_reducible apply thenK_n)) | ((with_reducible apply thenK_e)) | ((with_reducible apply blockK_hit); exact rfl)))
        · exact absurd ‹(!hasS r (i : Int)) = true› (by rw [hh]; decide)
        have hold5 : Old h H5 := ((hold.trans hold2).trans hB5.oldH).trans ho5
        generalize hl : nextS b.term = l at *
        have hll : l.length ≤ 2 := by rw [← hl]; exact nextS_len _
        have hnb : n ≤ 200000 := by
          have h1 : countS bl r k ≤ 2 * bl.length := countAt_le
          omega
        refine W.loopN (X := Nat × Nat) (fun x => [(1, .slice Ar r.length cr), (2, .int .i64 k), (7, .int .i64 (x.2 : Int)), (15, .slice (some ⟨bb, off, none⟩) bl.length c), (16, .int .i64 (bl.length : Int)), (17, .int .i64 (i : Int)), (28, .slice AL l.length cL), (29, .int .i64 (l.length : Int)), (30, .int .i64 (x.1 : Int))])
          (fun x B => Old h B ∧ IntAt B AL l ∧ x.1 ≤ l.length ∧ x.2 + (l.drop x.1).count k = n + l.count k) (fun x => l.length - x.1) (fun B' a => ⟨(0, n), ?_, hold5.trans a.oldH, hrow.up a.up, by simp, rfl⟩) ?_
        · (repeat' (first | exact trivial | exact rfl | apply And.intro)); done
        · rintro ⟨j, m⟩ B8 π8 sB8 ⟨hold8, hIn, hj, hcnt⟩
          dsimp only at hold8 hIn hj hcnt ⊢
          by_cases hjl : j < l.length
          · obtain ⟨k', hk'⟩ : ∃ k', l[j]? = some k' := ⟨_, List.getElem?_eq_getElem hjl⟩
            rcases hIn with hIn | ⟨nr, rfl, hR⟩
            · rw [hIn] at hjl; exact absurd hjl (Nat.not_lt_zero _)
            have hRn := sB8.dom _ _ hR
            have hRv : (l.map (Value.int .i64))[0 + j * 1]? = some (.int .i64 k') := by simp [hk']
            have hdrop : l.drop j = k' :: l.drop (j + 1) := by
              obtain ⟨h1, h2⟩ := List.getElem?_eq_some_iff.1 hk'
              rw [List.drop_eq_getElem_cons h1, h2]
            have hmb : m ≤ 300000 := by
              have := List.count_le_length (a := k) (l := l)
              omega
            rw [hdrop, List.count_cons] at hcnt
            repeat (first | ((with_reducible apply RS.indexAddrS); exact rfl; exact rfl; exact rfl; exact rfl; exact rfl; omega) | ((with_reducible apply RS.load1B); exact rfl; exact rfl; exact rfl; exact hR; exact hRn; exact hRv) | ((with_reducible apply RS.move); exact rfl; exact rfl; exact rfl) | ((with_reducible apply RS.assign); exact rfl; exact rfl; exact rfl) | ((with_reducible apply RS.cmpT); exact rfl; exact rfl; exact rfl; exact rfl; (simp only [cmpP]; omega)) | ((with_reducible apply RS.bin); exact rfl; exact rfl; exact rfl; exact rfl; exact rfl) | ((with_reducible apply RS.nil); exact mixed; kernel_rfl) | ((with_reducible apply W.seq)) | ((with_reducible apply W.reg); kernel_rfl) | ((with_reducible apply W.block)) | ((with_reducible apply W.skip)) | ((with_reducible apply W.condT); kernel_rfl; exact rfl) | ((with_reducible apply thenK_n)))
            repeat' ((first | (((with_reducible apply RS.splitD); exact rfl; exact rfl) <;> intro _) | ((((with_reducible apply RS.splitG); exact rfl; exact rfl) <;> intro _) <;> (fail_if_success (exact absurd ‹true = false› (by decide))) <;> (fail_if_success (exact absurd ‹false = true› (by decide)))) | (((with_reducible apply W.condD); exact rfl) <;> intro _) | ((((with_reducible apply W.cond); exact rfl) <;> intro _) <;> (fail_if_success (exact absurd ‹true = false› (by decide))) <;> (fail_if_success (exact absurd ‹false = true› (by decide))))) <;> repeat (first | ((with_reducible apply RS.move); exact rfl; exact rfl; exact rfl) | ((with_reducible apply RS.assign); exact rfl; exact rfl; exact rfl) | ((with_reducible apply RS.add1); exact rfl; exact rfl; exact rfl; exact rfl; omega) | ((with_reducible apply RS.nil); exact mixed; kernel_rfl) | ((with_reducible apply W.reg); kernel_rfl) | ((with_reducible apply W.skip)) | ((with_reducible apply thenK_n)) | ((with_reducible apply blockK_n))))
            · have hkk : k' = k := ‹k' = k›
              refine roundN_n rfl fun B' a => ⟨(j + 1, m + 1), ?_, ⟨hold8.trans a.oldH, .inr ⟨nr, rfl, a.up _ _ hR⟩, by omega, ?_⟩, ?_⟩
              · (repeat' (first | exact trivial | exact rfl | apply And.intro)); done
              · show m + 1 + (l.drop (j + 1)).count k = _
                rw [hkk] at hcnt
                simp at hcnt
                omega
              · show l.length - (j + 1) < l.length - j
                omega
            · have hkk : ¬ k' = k := ‹¬ k' = k›
              refine roundN_n rfl fun B' a => ⟨(j + 1, m), ?_, ⟨hold8.trans a.oldH, .inr ⟨nr, rfl, a.up _ _ hR⟩, by omega, ?_⟩, ?_⟩
              · (repeat' (first | exact trivial | exact rfl | apply And.intro)); done
              · show m + (l.drop (j + 1)).count k = _
                simp [hkk] at hcnt
                omega
              · show l.length - (j + 1) < l.length - j
                omega
          · have hz : l.drop j = [] := List.drop_eq_nil_of_le (by omega)
            rw [hz, List.count_nil, Nat.add_zero] at hcnt
            repeat (first | ((with_reducible apply RS.move); exact rfl; exact rfl; exact rfl) | ((with_reducible apply RS.cmpF); exact rfl; exact rfl; exact rfl; exact rfl; (simp only [cmpN]; omega)) | ((with_reducible apply RS.add1); exact rfl; exact rfl; exact rfl; exact rfl; omega) | ((with_reducible apply RS.nil); exact mixed; kernel_rfl) | ((with_reducible apply W.seq)) | ((with_reducible apply W.reg); kernel_rfl) | ((with_reducible apply W.exit)) | ((with_reducible apply W.condF); kernel_rfl; exact rfl) | ((with_reducible apply thenK_n)) | ((with_reducible apply thenK_e)) | ((with_reducible apply blockK_n)) | ((with_reducible apply blockK_hit); exact rfl) | ((with_reducible apply roundN_e)))
            refine roundN_n rfl fun B' a => ⟨(i + 1, m), ?_, ⟨hold8.trans a.oldH, by omega, by show m + countAt r k (i + 1) (bl.drop (i + 1)) = _; omega⟩, ?_⟩
            · (repeat' (first | exact trivial | exact rfl | apply And.intro)); done
            · show bl.length - (i + 1) < bl.length - i
              omega
    · have hz : bl.drop i = [] := List.drop_eq_nil_of_le (by omega)
      rw [hz, countAt, Nat.add_zero] at hgo
      repeat (first | ((with_reducible apply RS.move); exact rfl; exact rfl; exact rfl) | ((with_reducible apply RS.assign); exact rfl; exact rfl; exact rfl) | ((with_reducible apply RS.cmpF); exact rfl; exact rfl; exact rfl; exact rfl; (simp only [cmpN]; omega)) | ((with_reducible apply RS.nil); exact mixed; kernel_rfl) | ((with_reducible apply W.seq)) | ((with_reducible apply W.reg); kernel_rfl) | ((with_reducible apply W.exit)) | ((with_reducible apply W.ret)) | ((with_reducible apply W.condF); kernel_rfl; exact rfl) | ((with_reducible apply thenK_n)) | ((with_reducible apply thenK_e)) | ((with_reducible apply blockK_hit); exact rfl) | ((with_reducible apply roundN_e)))
      exact endsK_ret _ (.cons (.tmp rfl) .nil) fun B' a => ⟨by rw [← hgo]; rfl, fun j x hj => a.up _ _ (hold.up hd _ _ hj)⟩
end Go.Proofs.Ytjhloakacicdiaa
namespace Go.Proofs.Ytjhloakacicdiaa
open Go.AH
attribute [local irreducible] W RS
theorem setL_app1 : ∀ (c r : List Value) (o : Nat) (vs : List Value), o + vs.length ≤ c.length → setL (c ++ r) o vs = setL c o vs ++ r
  | [], r, o, vs, h => by
    have h : o + vs.length ≤ 0 := h
    have h1 : o = 0 := by omega
    have h2 : vs = [] := List.length_eq_zero_iff.1 (by omega)
    subst h1; subst h2
    rw [setL_nil, setL_nil]
  | a :: c, r, 0, [], _ => by rw [setL_nil, setL_nil]
  | a :: c, r, 0, v :: vs, h => by
    have := setL_app1 c r 0 vs (by simp at h ⊢; omega)
    simp only [List.cons_append, setL, this]
  | a :: c, r, o + 1, vs, h => by
    have := setL_app1 c r o vs (by simp at h ⊢; omega)
    simp only [List.cons_append, setL, this]
theorem setL_app2 : ∀ (c r : List Value) (k : Nat) (vs : List Value), setL (c ++ r) (c.length + k) vs = c ++ setL r k vs
  | [], r, k, vs => by simp
  | a :: c, r, k, vs => by
    have := setL_app2 c r k vs
    have e : (a :: c).length + k = (c.length + k) + 1 := by simp; omega
    rw [e]
    simp only [List.cons_append, setL, this]
theorem flat_set {w : Nat} : ∀ {L : List (List Value)}, (∀ c ∈ L, c.length = w) → ∀ {i o : Nat} {x vs : List Value}, L[i]? = some x → o + vs.length ≤ w → setL L.flatten (i * w + o) vs = (L.set i (setL x o vs)).flatten := by
  intro L
  induction L with
  | nil => intro _ i o x vs hx; simp at hx
  | cons c L ih =>
    intro hw i o x vs hx ho
    have hc := hw c (by simp)
    cases i with
    | zero =>
      simp only [List.getElem?_cons_zero, Option.some.injEq] at hx
      subst hx
      rw [Nat.zero_mul, Nat.zero_add, List.flatten_cons, setL_app1 _ _ _ _ (by omega), List.set_cons_zero, List.flatten_cons]
    | succ i =>
      have := ih (fun c' hc' => hw c' (by simp [hc'])) (i := i) (by simpa using hx) ho
      rw [List.flatten_cons, List.set_cons_succ, List.flatten_cons, ← this]
      have e : (i + 1) * w + o = c.length + (i * w + o) := by rw [hc, Nat.succ_mul]; omega
      rw [e, setL_app2]
theorem flat_take {w : Nat} {L : List (List Value)} (hw : ∀ c ∈ L, c.length = w) {i : Nat} {x : List Value} (hx : L[i]? = some x) : takeV (i * w) w L.flatten = x ∧ i * w + w ≤ L.flatten.length := by
  have hxl := hw x (List.mem_of_getElem? hx)
  have hi := (List.getElem?_eq_some_iff.1 hx).1
  have hlen := flat_len hw
  have hle : i * w + w ≤ L.flatten.length := by
    rw [hlen]
    have : (i + 1) * w ≤ L.length * w := Nat.mul_le_mul_right _ (by omega)
    rw [Nat.succ_mul] at this; exact this
  refine ⟨?_, hle⟩
  rw [takeV_eq]
  apply List.ext_getElem?
  intro j
  by_cases hj : j < w
  · rw [List.getElem?_take_of_lt hj, List.getElem?_drop, flat_get hw i j hj, hx]; rfl
  · have h1 : x[j]? = none := by rw [List.getElem?_eq_none_iff]; omega
    rw [h1, List.getElem?_take, if_neg hj]
abbrev InsV := InsS × Nat
def insVC (x : InsV) : List Value := [.int .i64 x.1.op, .int .i64 x.1.dst, .int .i64 x.1.a.reg, .int .i64 x.1.a.num, .int .i64 x.1.b.reg, .int .i64 x.1.b.num, .int .i64 x.1.size, .bool x.1.signed, .bool x.1.secret, .int .i64 x.1.ref, .int .i64 x.1.off, rowVl 2 x.2 x.1.args]
structure BV where
  ins : List InsV
  r : Nat
  term : TermS
def BV.s (b : BV) : BlockS := ⟨b.ins.map (·.1), b.term⟩
def BV.c (b : BV) : List Value := rowVl 12 b.r b.ins :: termC b.term
def insA (x : InsV) : Option Addr := if x.1.args = [] then none else some ⟨x.2, 0, none⟩
def insK (x : InsV) : Nat := if x.1.args = [] then 0 else capOf 2
theorem insVC_eq (x : InsV) : insVC x = insC x.1 (insA x) (insK x) := by
  unfold insVC insC insA insK
  rw [rowVl_eq]
theorem insVC_length (x : InsV) : (insVC x).length = 12 := rfl
def BV.A (b : BV) : Option Addr := if b.ins = [] then none else some ⟨b.r, 0, none⟩
def BV.k (b : BV) : Nat := if b.ins = [] then 0 else capOf 12
theorem BVc_eq (b : BV) : b.c = blockC b.s b.A b.k := by
  unfold BV.c blockC BV.A BV.k BV.s
  rw [rowVl_eq]
  simp [termC]
structure OwnB (h : Hp) (bb : Nat) (bv : List BV) : Prop where
  rw : rwM ≤ bb
  m : h.m bb = some ⟨⟨(bv.map BV.c).flatten⟩, 47⟩
  row : ∀ b ∈ bv, b.ins ≠ [] → rwM ≤ b.r ∧ h.m b.r = some ⟨⟨(b.ins.map insVC).flatten⟩, 64⟩
  arg : ∀ b ∈ bv, ∀ x ∈ b.ins, x.1.args ≠ [] → rwM ≤ x.2 ∧ h.m x.2 = some ⟨⟨argsC x.1.args⟩, 43⟩
  sep : ∀ (i j : Nat) (x y : BV), bv[i]? = some x → bv[j]? = some y → x.ins ≠ [] → y.ins ≠ [] → x.r = y.r → i = j
def sL (bv : List BV) : List BlockS := bv.map BV.s
theorem insR_own {h : Hp} {x : InsV} (ha : x.1.args ≠ [] → rwM ≤ x.2 ∧ h.m x.2 = some ⟨⟨argsC x.1.args⟩, 43⟩) : insR h (insVC x) x.1 := by
  refine ⟨insA x, insK x, insVC_eq x, ?_⟩
  unfold insA
  by_cases e : x.1.args = []
  · rw [e]; exact .nil
  · rw [if_neg e]; exact argR_row (ha e).2
theorem own_ins {h : Hp} {b : BV} (hr : b.ins ≠ [] → rwM ≤ b.r ∧ h.m b.r = some ⟨⟨(b.ins.map insVC).flatten⟩, 64⟩) (ha : ∀ x ∈ b.ins, x.1.args ≠ [] → rwM ≤ x.2 ∧ h.m x.2 = some ⟨⟨argsC x.1.args⟩, 43⟩) : SlAt h b.A 12 (b.ins.map (·.1)) (insR h) := by
  refine ⟨fun i x hx => ?_⟩
  have hne : b.ins ≠ [] := by intro e; rw [e] at hx; simp at hx
  rw [List.getElem?_map] at hx
  obtain ⟨y, hy, rfl⟩ := Option.map_eq_some_iff.1 hx
  have hw : ∀ c ∈ b.ins.map insVC, c.length = 12 := by intro c hc; obtain ⟨z, _, rfl⟩ := List.mem_map.1 hc; rfl
  obtain ⟨h1, h2⟩ := flat_take hw (i := i) (x := insVC y) (by rw [List.getElem?_map, hy]; rfl)
  refine ⟨b.r, 0, _, 64, by unfold BV.A; rw [if_neg hne], (hr hne).2, by omega, ?_⟩
  rw [Nat.zero_add, h1]
  exact insR_own (ha y (List.mem_of_getElem? hy))
theorem OwnB.sl {h : Hp} {bb : Nat} {bv : List BV} (o : OwnB h bb bv) : SlAt h (some ⟨bb, 0, none⟩) 9 (sL bv) (blockR h) := by
  refine ⟨fun i x hx => ?_⟩
  unfold sL at hx
  rw [List.getElem?_map] at hx
  obtain ⟨b, hb, rfl⟩ := Option.map_eq_some_iff.1 hx
  have hw : ∀ c ∈ bv.map BV.c, c.length = 9 := by intro c hc; obtain ⟨z, _, rfl⟩ := List.mem_map.1 hc; rfl
  obtain ⟨h1, h2⟩ := flat_take hw (i := i) (x := b.c) (by rw [List.getElem?_map, hb]; rfl)
  have hmem := List.mem_of_getElem? hb
  refine ⟨bb, 0, _, 47, rfl, o.m, by omega, b.A, b.k, ?_, own_ins (o.row b hmem) (o.arg b hmem)⟩
  rw [Nat.zero_add, h1]; exact BVc_eq b
theorem OwnB.up {h H : Hp} {bb : Nat} {bv : List BV} (o : OwnB h bb bv) (hu : ∀ i b, h.m i = some b → H.m i = some b) : OwnB H bb bv :=
  ⟨o.rw, hu _ _ o.m, fun b hb hn => ⟨(o.row b hb hn).1, hu _ _ (o.row b hb hn).2⟩, fun b hb x hx hn => ⟨(o.arg b hb x hx hn).1, hu _ _ (o.arg b hb x hx hn).2⟩, o.sep⟩
def Foot (bb : Nat) (bv : List BV) (i : Nat) : Prop := i = bb ∨ ∃ b ∈ bv, b.ins ≠ [] ∧ b.r = i
theorem sL_length (bv : List BV) : (sL bv).length = bv.length := by simp [sL]
theorem mem_set {α : Type} {l : List α} {i : Nat} {a b : α} (h : b ∈ l.set i a) : b ∈ l ∨ b = a := by
  rcases List.mem_or_eq_of_mem_set h with h | h
  · exact .inl h
  · exact .inr h
theorem OwnB.setT {h : Hp} {bb : Nat} {bv : List BV} (o : OwnB h bb bv) {i : Nat} {b : BV} (hb : bv[i]? = some b) (t : TermS) :
    OwnB (h.set bb ⟨⟨((bv.set i { b with term := t }).map BV.c).flatten⟩, 47⟩) bb (bv.set i { b with term := t }) := by
  have hmem := List.mem_of_getElem? hb
  have keep : ∀ {j : Nat} {x : Blk}, h.m j = some x → x.elem ≠ 47 → (h.set bb ⟨⟨((bv.set i { b with term := t }).map BV.c).flatten⟩, 47⟩).m j = some x := by
    intro j x hx he
    show (if j = bb then _ else h.m j) = _
    rw [if_neg (fun e => ?_)]
    · exact hx
    · subst e
      rw [o.m] at hx
      injection hx with hx
      rw [← hx] at he
      exact he rfl
  refine ⟨o.rw, by show (if bb = bb then _ else _) = _; rw [if_pos rfl], fun x hx hn => ?_, fun x hx y hy hn => ?_, fun j k x y hx hy hxn hyn he => ?_⟩
  · rcases mem_set hx with h1 | h1
    · exact ⟨(o.row x h1 hn).1, keep (o.row x h1 hn).2 (by simp)⟩
    · subst h1
      exact ⟨(o.row b hmem hn).1, keep (o.row b hmem hn).2 (by simp)⟩
  · rcases mem_set hx with h1 | h1
    · exact ⟨(o.arg x h1 y hy hn).1, keep (o.arg x h1 y hy hn).2 (by simp)⟩
    · subst h1
      exact ⟨(o.arg b hmem y hy hn).1, keep (o.arg b hmem y hy hn).2 (by simp)⟩
  · have back : ∀ {j : Nat} {x : BV}, (bv.set i { b with term := t })[j]? = some x → ∃ x', bv[j]? = some x' ∧ x'.ins = x.ins ∧ x'.r = x.r := by
      intro j x hx
      rw [List.getElem?_set] at hx
      split at hx
      · rename_i e
        subst e
        split at hx
        · injection hx with hx
          subst hx
          exact ⟨b, hb, rfl, rfl⟩
        · cases hx
      · exact ⟨x, hx, rfl, rfl⟩
    obtain ⟨x', h1, h2, h3⟩ := back hx
    obtain ⟨y', g1, g2, g3⟩ := back hy
    exact o.sep j k x' y' h1 g1 (by rw [h2]; exact hxn) (by rw [g2]; exact hyn) (by rw [h3, g3]; exact he)
theorem bv_wid (bv : List BV) : ∀ c ∈ bv.map BV.c, c.length = 9 := by intro c hc; obtain ⟨z, _, rfl⟩ := List.mem_map.1 hc; rfl
theorem bv_at {bv : List BV} {i : Nat} {b : BV} (hb : bv[i]? = some b) : (bv.map BV.c)[i]? = some b.c := by rw [List.getElem?_map, hb]; rfl
theorem bv_write {bv : List BV} {i o off : Nat} {b b' : BV} {vs : List Value} (hb : bv[i]? = some b) (ho : off = i * 9 + o) (hl : o + vs.length ≤ 9) (hs : setL b.c o vs = b'.c) : setL (bv.map BV.c).flatten off vs = ((bv.set i b').map BV.c).flatten := by
  rw [ho, flat_set (bv_wid bv) (bv_at hb) hl, hs, List.map_set]
theorem bv_cell {bv : List BV} {i o off : Nat} {b : BV} {v : Value} (hb : bv[i]? = some b) (ho : off = i * 9 + o) (hl : o < 9) (hv : b.c[o]? = some v) : (bv.map BV.c).flatten[off]? = some v := by
  rw [ho, flat_get (bv_wid bv) i o hl, bv_at hb]; exact hv
theorem bv_cells {bv : List BV} {i o n off : Nat} {b : BV} (hb : bv[i]? = some b) (ho : off = i * 9 + o) (hl : o + n ≤ 9) : takeV off n (bv.map BV.c).flatten = (b.c.drop o).take n ∧ off + n ≤ (bv.map BV.c).flatten.length := by
  obtain ⟨h1, h2⟩ := flat_take (bv_wid bv) (bv_at hb)
  subst ho
  exact ⟨takeV_part h1 hl, by omega⟩
end Go.Proofs.Ytjhloakacicdiaa
namespace Go.Proofs.Ytjhloakacicdiaa
open Go.AH
attribute [local irreducible] W RS
theorem sL_set (bv : List BV) (i : Nat) (b : BV) : sL (bv.set i b) = (sL bv).set i b.s := by simp [sL, List.map_set]
theorem sL_at {bv : List BV} {i : Nat} {b : BV} (hb : bv[i]? = some b) : (sL bv)[i]? = some b.s := by simp [sL, hb]
theorem nextS_1 {t : TermS} (h : t.kind = 1) : nextS t = [t.goto] := by unfold nextS; rw [if_pos h]
theorem nextS_2 {t : TermS} (h : t.kind = 2) : nextS t = [t.goto, t.els] := by unfold nextS; rw [if_neg (by omega), if_pos h]
theorem nextS_turn {bl : List BlockS} (ht : tgtOK bl) {b : BlockS} (hb : b ∈ bl) : ∀ k ∈ nextS (turnT bl b.term), 0 ≤ k ∧ k < bl.length := by
  have hth := fun k (hk : k ∈ nextS b.term) => throughGo_ok ht bl.length k (ht b hb k hk)
  unfold turnT
  by_cases h1 : b.term.kind = 1
  · rw [nextS_1 h1] at hth
    rw [if_pos h1]
    intro k hk
    rw [nextS_1 (t := { b.term with goto := throughS bl b.term.goto }) h1] at hk
    simp only [List.mem_singleton] at hk hth
    subst hk
    exact hth _ rfl
  · rw [if_neg h1]
    by_cases h2 : b.term.kind = 2
    · rw [nextS_2 h2] at hth
      rw [if_pos h2]
      split
      · intro k hk
        have hk : k ∈ [throughS bl b.term.goto] := hk
        simp only [List.mem_singleton] at hk
        subst hk
        exact hth _ (by simp)
      · intro k hk
        rw [nextS_2 (t := { b.term with goto := throughS bl b.term.goto, els := throughS bl b.term.els }) h2] at hk
        simp only [List.mem_cons, List.not_mem_nil, or_false] at hk
        rcases hk with hk | hk
        · subst hk; exact hth _ (by simp)
        · subst hk; exact hth _ (by simp)
    · rw [if_neg h2]
      exact ht b hb
theorem tgtOK_set {bl : List BlockS} (ht : tgtOK bl) {i : Nat} {b : BlockS} (hb : ∀ k ∈ nextS b.term, 0 ≤ k ∧ k < bl.length) : tgtOK (bl.set i b) := by
  intro x hx k hk
  rw [List.length_set]
  rcases mem_set hx with h | h
  · exact ht x h k hk
  · subst h; exact hb k hk
theorem turnAt_ok {bl : List BlockS} (ht : tgtOK bl) (i : Nat) : tgtOK (turnAt bl i) ∧ (turnAt bl i).length = bl.length := by
  unfold turnAt
  split
  · rename_i b hb
    exact ⟨tgtOK_set ht (nextS_turn ht (List.mem_of_getElem? hb)), List.length_set⟩
  · exact ⟨ht, rfl⟩
theorem foot_setT {bv : List BV} {bb i : Nat} {b : BV} (hb : bv[i]? = some b) (t : TermS) (j : Nat) : Foot bb (bv.set i { b with term := t }) j ↔ Foot bb bv j := by
  unfold Foot
  constructor
  · rintro (h | ⟨x, hx, hn, hr⟩)
    · exact .inl h
    · rcases mem_set hx with h1 | h1
      · exact .inr ⟨x, h1, hn, hr⟩
      · subst h1; exact .inr ⟨b, List.mem_of_getElem? hb, hn, hr⟩
  · rintro (h | ⟨x, hx, hn, hr⟩)
    · exact .inl h
    · obtain ⟨k, hk⟩ := List.mem_iff_getElem?.1 hx
      by_cases e : i = k
      · subst e
        rw [hb] at hk
        injection hk with hk
        subst hk
        exact .inr ⟨{ b with term := t }, List.mem_of_getElem? (i := i) (by rw [List.getElem?_set, if_pos rfl, if_pos (List.getElem?_eq_some_iff.1 hb).1]), hn, hr⟩
      · exact .inr ⟨x, List.mem_of_getElem? (i := k) (by rw [List.getElem?_set, if_neg e]; exact hk), hn, hr⟩
structure FunB (h : Hp) (fb : Nat) (f : FuncS) (A1 : Option Addr) (c1 : Nat) (A2 : Option Addr) (c2 : Nat) (bb c3 : Nat) : Prop where
  m : h.m fb = some ⟨⟨funcC f A1 c1 A2 c2 (some ⟨bb, 0, none⟩) c3⟩, 35⟩
  rw : rwM ≤ fb
theorem FunB.at {h : Hp} {fb : Nat} {f : FuncS} {A1 : Option Addr} {c1 : Nat} {A2 : Option Addr} {c2 bb c3 : Nat} {bv : List BV} (o : FunB h fb f A1 c1 A2 c2 bb c3) (ob : OwnB h bb bv) (hl : f.blocks.length = bv.length) : FAt h fb f.regs (some ⟨bb, 0, none⟩) c3 (sL bv) :=
  ⟨⟨_, o.m, rfl, by rw [sL_length, ← hl]; rfl⟩, ob.sl⟩
theorem OwnB.setI {h H : Hp} {bb : Nat} {bv : List BV} (o : OwnB h bb bv) {i : Nat} {b1 : BV} (hm : H.m bb = some ⟨⟨((bv.set i b1).map BV.c).flatten⟩, 47⟩)
    (hkeep : ∀ j x, h.m j = some x → x.elem = 43 → H.m j = some x) (hrows : ∀ (j : Nat) (x : BV), bv[j]? = some x → j ≠ i → x.ins ≠ [] → H.m x.r = h.m x.r)
    (hnew : b1.ins ≠ [] → rwM ≤ b1.r ∧ H.m b1.r = some ⟨⟨(b1.ins.map insVC).flatten⟩, 64⟩) (harg : ∀ x ∈ b1.ins, x.1.args ≠ [] → rwM ≤ x.2 ∧ h.m x.2 = some ⟨⟨argsC x.1.args⟩, 43⟩)
    (hsep : ∀ (j : Nat) (x : BV), bv[j]? = some x → j ≠ i → x.ins ≠ [] → b1.ins ≠ [] → x.r ≠ b1.r) : OwnB H bb (bv.set i b1) := by
  have back : ∀ {j : Nat} {x : BV}, (bv.set i b1)[j]? = some x → (j = i ∧ x = b1) ∨ (j ≠ i ∧ bv[j]? = some x) := by
    intro j x hx
    rw [List.getElem?_set] at hx
    split at hx
    · rename_i e
      split at hx
      · injection hx with hx
        exact .inl ⟨e.symm, hx.symm⟩
      · cases hx
    · rename_i e
      exact .inr ⟨fun e' => e e'.symm, hx⟩
  refine ⟨o.rw, hm, fun x hx hn => ?_, fun x hx y hy hn => ?_, fun j k x y hx hy hxn hyn he => ?_⟩
  · obtain ⟨j, hj⟩ := List.mem_iff_getElem?.1 hx
    rcases back hj with ⟨_, e⟩ | ⟨e, hj'⟩
    · subst e; exact hnew hn
    · have := o.row x (List.mem_of_getElem? hj') hn
      exact ⟨this.1, by rw [hrows j x hj' e hn]; exact this.2⟩
  · rcases mem_set hx with h1 | h1
    · have := o.arg x h1 y hy hn
      exact ⟨this.1, hkeep _ _ this.2 rfl⟩
    · subst h1
      have := harg y hy hn
      exact ⟨this.1, hkeep _ _ this.2 rfl⟩
  · rcases back hx with ⟨e1, e2⟩ | ⟨e1, h1⟩
    · rcases back hy with ⟨g1, g2⟩ | ⟨g1, h2⟩
      · rw [e1, g1]
      · subst e2
        exact absurd he.symm (hsep k y h2 g1 hyn hxn)
    · rcases back hy with ⟨g1, g2⟩ | ⟨g1, h2⟩
      · subst g2
        exact absurd he (hsep j x h1 e1 hxn hyn)
      · exact o.sep j k x y h1 h2 hxn hyn he
theorem OwnB.row_ne {h : Hp} {bb : Nat} {bv : List BV} (o : OwnB h bb bv) {x : BV} (hx : x ∈ bv) (hn : x.ins ≠ []) {j : Nat} {y : Blk} (hy : h.m j = some y) (he : y.elem ≠ 64) : x.r ≠ j := by
  intro e
  have := (o.row x hx hn).2
  rw [e, hy] at this
  injection this with this
  rw [this] at he
  exact he rfl
theorem ne_of_elem {h : Hp} {i j : Nat} {x y : Blk} (hx : h.m i = some x) (hy : h.m j = some y) (he : x.elem ≠ y.elem) : i ≠ j := by
  intro e
  subst e
  rw [hx] at hy
  injection hy with hy
  exact he (by rw [hy])
def totB (bv : List BV) : Nat := (bv.map fun b => b.ins.length).sum
theorem sum_set {l : List Nat} {i v w : Nat} (h : l[i]? = some w) : (l.set i v).sum + w = l.sum + v := by
  induction l generalizing i with
  | nil => simp at h
  | cons a l ih =>
    cases i with
    | zero =>
      simp only [List.getElem?_cons_zero, Option.some.injEq] at h
      subst h
      simp only [List.set_cons_zero, List.sum_cons]; omega
    | succ i =>
      have := ih (i := i) (by simpa using h)
      simp only [List.set_cons_succ, List.sum_cons]; omega
theorem totB_set {bv : List BV} {i : Nat} {b c : BV} (h : bv[i]? = some b) : totB (bv.set i c) + b.ins.length = totB bv + c.ins.length := by
  unfold totB
  rw [List.map_set]
  exact sum_set (by rw [List.getElem?_map, h]; rfl)
theorem totB_le {bv : List BV} {b : BV} (h : b ∈ bv) : b.ins.length ≤ totB bv := by
  unfold totB
  induction bv with
  | nil => cases h
  | cons a l ih =>
    simp only [List.map_cons, List.sum_cons]
    rcases List.mem_cons.1 h with e | e
    · subst e; omega
    · have := ih e; omega
theorem countP_set {α : Type} {p : α → Bool} {l : List α} {i : Nat} {v w : α} (h : l[i]? = some w) : (l.set i v).countP p + (if p w = true then 1 else 0) = l.countP p + (if p v = true then 1 else 0) := by
  induction l generalizing i with
  | nil => simp at h
  | cons a l ih =>
    cases i with
    | zero =>
      simp only [List.getElem?_cons_zero, Option.some.injEq] at h
      subst h
      simp only [List.set_cons_zero, List.countP_cons]; omega
    | succ i =>
      have := ih (i := i) (by simpa using h)
      simp only [List.set_cons_succ, List.countP_cons]; omega
structure MeltI (h : Hp) (bb : Nat) (bv0 : List BV) (fb : Nat) (f : FuncS) (A1 : Option Addr) (c1 : Nat) (A2 : Option Addr) (c2 c3 : Nat) (bv : List BV) (B : Hp) : Prop where
  ob : OwnB B bb bv
  fn : FunB B fb f A1 c1 A2 c2 bb c3
  off : OffS (Foot bb bv0) h B
  foot : ∀ i, Foot bb bv i → Foot bb bv0 i ∨ h.n ≤ i
  len : bv.length = bv0.length
  tgt : tgtOK (sL bv)
  tot : totB bv ≤ 1000000
theorem MeltI.up {h : Hp} {bb : Nat} {bv0 : List BV} {fb : Nat} {f : FuncS} {A1 : Option Addr} {c1 : Nat} {A2 : Option Addr} {c2 c3 : Nat} {bv : List BV} {B B' : Hp} (m : MeltI h bb bv0 fb f A1 c1 A2 c2 c3 bv B) (hd : ∀ i x, B.m i = some x → i < B.n) (o : Old B B') : MeltI h bb bv0 fb f A1 c1 A2 c2 c3 bv B' :=
  ⟨m.ob.up (o.up hd), ⟨o.up hd _ _ m.fn.m, m.fn.rw⟩, m.off.same o.off, m.foot, m.len, m.tgt, m.tot⟩
end Go.Proofs.Ytjhloakacicdiaa
namespace Go.Proofs.Ytjhloakacicdiaa
open Go.AH
attribute [local irreducible] W RS
theorem numN_tf (n : Int) (h : Hp) : TF Try.prog 19 ⟨[.int .i64 n]⟩ h (.agg ⟨[.int .i64 (-1), .int .i64 n]⟩) h := by
  refine TF.still (fn := Try.f19) (c := (Try.f19.body.getD .skip)) Try.func19 (by kernel_rfl) Try.ntmps19 (by kernel_rfl) (by simp) ?_
  conv => arg 2; whnf
  repeat (first | ((with_reducible apply RS.move); exact rfl; exact rfl; exact rfl) | ((with_reducible apply RS.store); exact rfl; exact rfl; exact rfl; exact rfl; exact rfl; exact Nat.le_of_ble_eq_true rfl; exact rfl; exact rfl; exact rfl) | ((with_reducible apply RS.alloc); exact rfl; exact rfl) | ((with_reducible apply RS.build); exact rfl; exact rfl; exact rfl; exact rfl) | ((with_reducible apply RS.nil); exact mixed; kernel_rfl) | ((with_reducible apply W.seq)) | ((with_reducible apply W.reg); kernel_rfl) | ((with_reducible apply W.ret)) | ((with_reducible apply thenK_n)))
  exact endsK_ret _ (.cons (.cellN rfl rfl rfl (Nat.le_of_ble_eq_true rfl)) .nil) ⟨rfl, rfl⟩
theorem melt_len {bl : List BlockS} {i : Nat} {k : Int} : (meltAt bl i k).length = bl.length := by
  unfold meltAt
  split <;> simp
theorem melt_eq {bl : List BlockS} {i : Nat} {k : Int} {b o : BlockS} (hb : bl[i]? = some b) (ho : bl[k.toNat]? = some o) : meltAt bl i k = (bl.set i ⟨b.ins ++ o.ins, o.term⟩).set k.toNat ⟨[], retT⟩ := by
  unfold meltAt; rw [hb, ho]
theorem melt_tgt {bl : List BlockS} (ht : tgtOK bl) {i : Nat} {k : Int} {b o : BlockS} (hb : bl[i]? = some b) (ho : bl[k.toNat]? = some o) : tgtOK (meltAt bl i k) := by
  rw [melt_eq hb ho]
  have h1 := tgtOK_set ht (i := i) (b := ⟨b.ins ++ o.ins, o.term⟩) (ht o (List.mem_of_getElem? ho))
  refine tgtOK_set h1 fun x hx => ?_
  have hx : x ∈ ([] : List Int) := hx
  cases hx
theorem melt_jumps {bl : List BlockS} {i : Nat} {k : Int} {b o : BlockS} (hb : bl[i]? = some b) (ho : bl[k.toNat]? = some o) (hne : k.toNat ≠ i) (hk : b.term.kind = 1) : jumpsS (meltAt bl i k) + 1 = jumpsS bl := by
  rw [melt_eq hb ho]
  unfold jumpsS
  have h1 := countP_set (p := fun b : BlockS => decide (b.term.kind = 1)) (v := ⟨b.ins ++ o.ins, o.term⟩) hb
  have h2 := countP_set (p := fun b : BlockS => decide (b.term.kind = 1)) (l := bl.set i ⟨b.ins ++ o.ins, o.term⟩) (i := k.toNat) (v := ⟨[], retT⟩) (w := o) (by rw [List.getElem?_set, if_neg (fun e => hne e.symm)]; exact ho)
  have e1 : decide (retT.kind = 1) = false := by decide
  simp only [hk, decide_true, if_true, e1, Bool.false_eq_true, if_false] at h1 h2
  omega
def blockA (b : BV) : Value := .agg ⟨rowVl 12 b.r b.ins :: termC b.term⟩
theorem bv_term {bv : List BV} {i off : Nat} {b : BV} (hb : bv[i]? = some b) (ho : off = i * 9 + 1) : takeV off 8 (bv.map BV.c).flatten = termC b.term ∧ off + 8 ≤ (bv.map BV.c).flatten.length :=
  bv_cells (o := 1) (n := 8) hb ho (by decide)
theorem bv_block {bv : List BV} {i off : Nat} {b : BV} (hb : bv[i]? = some b) (ho : off = i * 9) : takeV off 9 (bv.map BV.c).flatten = blockC b.s b.A b.k ∧ off + 9 ≤ (bv.map BV.c).flatten.length := by
  have := bv_cells (o := 0) (n := 9) (off := off) hb (by omega) (by decide)
  rw [BVc_eq] at this
  exact this
theorem rowVl_ne {α : Type} {sz r : Nat} {l : List α} (h : l ≠ []) : rowVl sz r l = .slice (some ⟨r, 0, none⟩) l.length (capOf sz) := by
  cases l with
  | nil => exact absurd rfl h
  | cons a l => rfl
theorem ins_wid (l : List InsV) : ∀ c ∈ l.map insVC, c.length = 12 := by intro c hc; obtain ⟨z, _, rfl⟩ := List.mem_map.1 hc; rfl
theorem ins_len (l : List InsV) : (l.map insVC).flatten.length = l.length * 12 := by rw [flat_len (ins_wid l), List.length_map]
theorem ins_one (l : List InsV) : (l.map insVC).flatten.all (·.oneCell') = true := by
  rw [List.all_eq_true]
  intro v hv
  obtain ⟨c, hc, hvc⟩ := List.mem_flatten.1 hv
  obtain ⟨x, _, rfl⟩ := List.mem_map.1 hc
  unfold insVC at hvc
  have hr : (rowVl 2 x.2 x.1.args).oneCell' = true := by cases x.1.args <;> rfl
  simp only [List.mem_cons, List.not_mem_nil, or_false] at hvc
  rcases hvc with h | h | h | h | h | h | h | h | h | h | h | h <;> subst h <;> first | rfl | exact hr
theorem ins_all (l : List InsV) : takeV 0 (l.length * 12) (l.map insVC).flatten = (l.map insVC).flatten := by
  rw [← ins_len]; exact takeV_all _
theorem bv_put0 {bv : List BV} {i off : Nat} {b b' : BV} {v : Value} (hb : bv[i]? = some b) (ho : off = i * 9) (hv : v = rowVl 12 b'.r b'.ins) (ht : b'.term = b.term) : setL (bv.map BV.c).flatten off [v] = ((bv.set i b').map BV.c).flatten := by
  refine bv_write (o := 0) hb (by omega) (Nat.le_of_ble_eq_true rfl) ?_
  unfold BV.c
  rw [ht, hv]
  rfl
theorem bv_cell0 {bv : List BV} {i off : Nat} {b : BV} {v : Value} (hb : bv[i]? = some b) (ho : off = i * 9) (hv : rowVl 12 b.r b.ins = v) : (bv.map BV.c).flatten[off]? = some v :=
  bv_cell (o := 0) hb (by omega) (by decide) (by rw [← hv]; rfl)
theorem r8_close {h : Hp} {bb : Nat} {bv0 : List BV} {fb : Nat} {f : FuncS} {A1 : Option Addr} {c1 : Nat} {A2 : Option Addr} {c2 c3 : Nat} {bw : List BV} {B B' : Hp} (hJ : MeltI h bb bv0 fb f A1 c1 A2 c2 c3 bw B) (hd : ∀ i x, B.m i = some x → i < B.n) {i g : Nat} {b o : BV} (hb : bw[i]? = some b) (ho : bw[g]? = some o) (hgi : g ≠ i) (r' : Nat)
    (hm' : B'.m bb = some ⟨⟨((bw.set i ⟨b.ins ++ o.ins, r', b.term⟩).map BV.c).flatten⟩, 47⟩) (hn : B.n ≤ B'.n) (kn : ∀ j, j < B.n → j ≠ bb → (b.ins ≠ [] → o.ins ≠ [] → j ≠ b.r) → B'.m j = B.m j)
    (hnew : b.ins ++ o.ins ≠ [] → rwM ≤ r' ∧ B'.m r' = some ⟨⟨((b.ins ++ o.ins).map insVC).flatten⟩, 64⟩) (hr' : b.ins ++ o.ins ≠ [] → (o.ins = [] ∧ r' = b.r) ∨ B.n ≤ r') :
    OwnB B' bb (bw.set i ⟨b.ins ++ o.ins, r', b.term⟩) ∧ OffS (Foot bb bv0) h B' ∧ (b.ins ++ o.ins ≠ [] → Foot bb bw r' ∨ h.n ≤ r') := by
  have hbm := List.mem_of_getElem? hb
  have hom := List.mem_of_getElem? ho
  have hob := hJ.ob
  have hbbn := hd _ _ hob.m
  have foot : b.ins ++ o.ins ≠ [] → Foot bb bw r' ∨ h.n ≤ r' := by
    intro hne
    rcases hr' hne with ⟨h1, h2⟩ | h1
    · rw [h1, List.append_nil] at hne
      exact .inl (.inr ⟨b, hbm, hne, h2.symm⟩)
    · exact .inr (Nat.le_trans hJ.off.1 h1)
  refine ⟨hob.setI hm' (fun j x hx he => ?_) (fun j x hx hji hxn => ?_) hnew (fun x hx hn => ?_) (fun j x hx hji hxn hbn => ?_), ?_, foot⟩
  · have h1 : j ≠ bb := ne_of_elem hx hob.m (by rw [he]; simp)
    rw [kn j (hd _ _ hx) h1 fun hbn _ => (ne_of_elem (hob.row b hbm hbn).2 hx (by rw [he]; simp)).symm]
    exact hx
  · have hxm := List.mem_of_getElem? hx
    have hrow := (hob.row x hxm hxn).2
    refine kn x.r (hd _ _ hrow) (ne_of_elem hrow hob.m (by simp)) fun hbn _ e => ?_
    exact hji (hob.sep j i x b hx hb hxn hbn e)
  · rcases List.mem_append.1 hx with h1 | h1
    · exact hob.arg b hbm x h1 hn
    · exact hob.arg o hom x h1 hn
  · have hxm := List.mem_of_getElem? hx
    have hrow := (hob.row x hxm hxn).2
    rcases hr' hbn with ⟨h1, h2⟩ | h1
    · intro e
      have hbne : b.ins ≠ [] := by
        intro e2
        apply hbn
        show b.ins ++ o.ins = []
        rw [h1, e2]; rfl
      have e : x.r = r' := e
      rw [h2] at e
      exact hji (hob.sep j i x b hx hb hxn hbne e)
    · have := hd _ _ hrow
      show x.r ≠ r'
      omega
  · refine hJ.off.trans (T := fun j => j = bb ∨ (b.ins ≠ [] ∧ j = b.r)) ⟨hn, fun j hj hnn => kn j hj (fun e => hnn (.inl e)) fun hbn _ e => hnn (.inr ⟨hbn, e⟩)⟩ fun j hj hT => ?_
    rcases hT with e | ⟨hbn, e⟩
    · exact .inl e
    · rcases hJ.foot j (.inr ⟨b, hbm, hbn, e.symm⟩) with h1 | h1
      · exact h1
      · omega
theorem OwnB.setH {h : Hp} {bb : Nat} {bv : List BV} (o : OwnB h bb bv) {A : Option Addr} {s s' : SetS} (hs : SetAt h A s) : OwnB (setH h A s') bb bv :=
  ⟨o.rw, setH_keep hs o.m (by simp), fun b hb hn => ⟨(o.row b hb hn).1, setH_keep hs (o.row b hb hn).2 (by simp)⟩, fun b hb x hx hn => ⟨(o.arg b hb x hx hn).1, setH_keep hs (o.arg b hb x hx hn).2 (by simp)⟩, o.sep⟩
theorem reachPush_len : ∀ (l : List Int) (s : SetS) (w : List Int), (reachPush s w l).1.length = s.length := by
  intro l
  induction l with
  | nil => intro s w; rfl
  | cons k l ih =>
    intro s w
    unfold reachPush
    split
    · exact ih s w
    · rw [ih, putS_length]
theorem reachGo_len {bl : List BlockS} : ∀ (m : Nat) (s : SetS) (w : List Int), (reachGo bl m s w).length = s.length := by
  intro m
  induction m with
  | zero => intro s w; rfl
  | succ m ih =>
    intro s w
    cases w with
    | nil => rfl
    | cons n w => rw [reachGo, ih, reachPush_len]
theorem reachedS_len (bl : List BlockS) : (reachedS bl).length = (bl.length + 63) / 64 := by
  unfold reachedS
  split
  · rename_i h; rw [h]; rfl
  · rw [reachGo_len, putS_length, emptyS_length]; omega
set_option maxRecDepth 100000 in
theorem join_ex (h : Hp) (bb : Nat) (bv0 : List BV) (fb : Nat) (f : FuncS) (A1 : Option Addr) (c1 : Nat) (A2 : Option Addr) (c2 c3 : Nat) (hfl : f.blocks.length = bv0.length) (hpos : 0 < bv0.length) (hlen : bv0.length ≤ 100000)
    (hob : OwnB h bb bv0) (hfn : FunB h fb f A1 c1 A2 c2 bb c3) (htg : tgtOK (sL bv0)) (htot : totB bv0 ≤ 1000000) :
    EX Try.prog 28 [.pointer (some ⟨fb, 0, none⟩)] h (fun _ h' => ∃ bv, MeltI h bb bv0 fb f A1 c1 A2 c2 c3 bv h' ∧ sL bv = meltS (sL bv0)) := by
  refine EX.intro (fn := Try.f28) (c := (Try.f28.body.getD .skip)) Try.func28 (by kernel_rfl) Try.ntmps28 (by kernel_rfl) fun π s0 => ?_
  conv => arg 2; whnf
  have hd := s0.dom
  have hF := hfn.m
  have hFn := hd _ _ hF
  have hI0 : MeltI h bb bv0 fb f A1 c1 A2 c2 c3 bv0 h := ⟨hob, hfn, OffS.refl _ _, fun i hi => .inl hi, rfl, htg, htot⟩
  repeat (first | ((with_reducible apply RS.load1B); exact rfl; exact rfl; exact rfl; exact hF; exact hFn; exact rfl) | ((with_reducible apply RS.nilCheck); exact rfl; exact rfl; exact rfl) | ((with_reducible apply RS.move); exact rfl; exact rfl; exact rfl) | ((with_reducible apply RS.lenSl); exact rfl; exact rfl; exact rfl) | ((with_reducible apply RS.fieldAddr); exact rfl; exact rfl; exact rfl) | ((with_reducible apply RS.nil); exact mixed; kernel_rfl) | ((with_reducible apply W.seq)) | ((with_reducible apply W.reg); kernel_rfl) | ((with_reducible apply W.block)) | ((with_reducible apply thenK_n)))
  refine W.loopN (X := Nat × List BV) (fun x => [(0, .pointer (some ⟨fb, 0, none⟩)), (10, .int .i64 (f.blocks.length : Int)), (11, .int .i64 (x.1 : Int))])
    (fun x B => MeltI h bb bv0 fb f A1 c1 A2 c2 c3 x.2 B ∧ x.1 ≤ bv0.length ∧ meltUp bv0.length (bv0.length - x.1) (sL x.2) = meltS (sL bv0)) (fun x => bv0.length - x.1)
    (fun B' a => ⟨(0, bv0), ?_, ⟨hI0.up hd a.oldH, by simp, by show meltUp bv0.length bv0.length (sL bv0) = _; unfold meltS; rw [sL_length]⟩⟩) ?_
  · (repeat' (first | exact trivial | exact rfl | apply And.intro)); done
  rintro ⟨i, bv⟩ B π sB ⟨hI, hi, hgo⟩
  dsimp only at hI hi hgo ⊢
  have hF := hI.fn.m
  have hFn := sB.dom _ _ hF
  have hfat := hI.fn.at hI.ob (by rw [hI.len]; exact hfl)
  have hvl := hI.len
  by_cases hlt : i < bv0.length
  · have hif : fitI (i : Int) := by unfold fitI; omega
    have hne' : sL bv ≠ [] := by
      intro e
      have h0 : (sL bv).length = 0 := by rw [e]; rfl
      rw [sL_length] at h0
      omega
    have hlen' : (sL bv).length ≤ 100000 := by rw [sL_length]; omega
    have hrl : (reachedS (sL bv)).length ≤ 1000000000 := by rw [reachedS_len]; omega
    obtain ⟨m, hm⟩ : ∃ m, bv0.length - i = m + 1 := ⟨bv0.length - i - 1, by omega⟩
    have him : bv0.length - (m + 1) = i := by omega
    rw [hm, meltUp, him] at hgo
    have hmm : bv0.length - (i + 1) = m := by omega
    ((with_reducible apply W.seq); repeat (first | ((with_reducible apply RS.cmpT); exact rfl; exact rfl; exact rfl; exact rfl; (simp only [cmpP]; omega)) | ((with_reducible apply RS.nil); exact mixed; kernel_rfl) | ((with_reducible apply W.reg); kernel_rfl) | ((with_reducible apply thenK_n))))
    ((with_reducible apply W.seq); repeat (first | ((with_reducible apply W.skip)) | ((with_reducible apply W.condT); kernel_rfl; exact rfl) | ((with_reducible apply thenK_n))))
    ((with_reducible apply W.seq); repeat (first | ((with_reducible apply W.block))))
    ((with_reducible apply W.seq); repeat (first | ((with_reducible apply RS.move); exact rfl; exact rfl; exact rfl) | ((with_reducible apply RS.assign); exact rfl; exact rfl; exact rfl) | ((with_reducible apply RS.nil); exact mixed; kernel_rfl) | ((with_reducible apply W.reg); kernel_rfl) | ((with_reducible apply thenK_n))))
    ((with_reducible apply W.seq); repeat (first | ((with_reducible apply RS.callEx); exact rfl; exact rfl; exact rfl; intro B1 hB1; refine ⟨_, reached_ex fb f.regs (some ⟨bb, 0, none⟩) c3 (sL bv) hne' hlen' hI.tgt B1 (hfat.up hB1.up), ?_⟩; rintro v H1 π1 ⟨Ar, cr, rfl, hs1, ho1, hn1⟩ sH1 hle1) | ((with_reducible apply RS.move); exact rfl; exact rfl; exact rfl) | ((with_reducible apply RS.assign); exact rfl; exact rfl; exact rfl) | ((with_reducible apply RS.nil); exact mixed; kernel_rfl) | ((with_reducible apply W.reg); kernel_rfl) | ((with_reducible apply thenK_n))))
    have hI1 := hI.up sB.dom (hB1.oldH.trans ho1)
    cases hh : hasS (reachedS (sL bv)) (i : Int) with
    | false =>
      have hgo' : meltUp bv0.length m (sL bv) = meltS (sL bv0) := by rw [← hgo]; unfold meltI; rw [if_neg (by rw [hh]; simp)]
      ((with_reducible apply W.seq); repeat (fail))
      ((with_reducible apply W.seq); repeat (first | ((with_reducible apply RS.callA); exact rfl; exact rfl; exact rfl; exact fun B6 hB6 => has_tf (reachedS (sL bv)) _ _ (i : Int) hif hrl B6 (setAt_up hs1 hB6.up)) | ((with_reducible apply RS.move); exact rfl; exact rfl; exact rfl) | ((with_reducible apply RS.not); exact rfl; exact rfl; exact rfl) | ((with_reducible apply RS.nil); exact mixed; kernel_rfl) | ((with_reducible apply W.reg); kernel_rfl) | ((with_reducible apply thenK_n))))
      repeat' ((first | (((with_reducible apply RS.splitD); exact rfl; exact rfl) <;> intro _) | ((((with_reducible apply RS.splitG); exact rfl; exact rfl) <;> intro _) <;> (fail_if_success (exact absurd ‹true = false› (by decide))) <;> (fail_if_success (exact absurd ‹false = true› (by decide)))) | (((with_reducible apply W.condD); exact rfl) <;> intro _) | ((((with_reducible apply W.cond); exact rfl) <;> intro _) <;> (fail_if_success (exact absurd ‹true = false› (by decide))) <;> (fail_if_success (exact absurd ‹false = true› (by decide))))) <;> repeat (first | ((with_reducible apply RS.move); exact rfl; exact rfl; exact rfl) | ((with_reducible apply RS.add1); exact rfl; exact rfl; exact rfl; exact rfl; omega) | ((with_reducible apply RS.nil); exact mixed; kernel_rfl) | ((with_reducible apply W.reg); kernel_rfl) | ((with_reducible apply W.block)) | ((with_reducible apply W.exit)) | ((with_reducible apply W.skip)) | ((with_reducible apply thenK_n)) | ((with_reducible apply thenK_e)) | ((with_reducible apply blockK_hit); exact rfl)))
      · refine roundN_n rfl fun B' a => ⟨(i + 1, bv), ?_, ⟨hI1.up sH1.dom a.oldH, by omega, by rw [hmm]; exact hgo'⟩, ?_⟩
        · (repeat' (first | exact trivial | exact rfl | apply And.intro)); done
        · show bv0.length - (i + 1) < bv0.length - i
          omega
      all_goals exact absurd ‹(!hasS (reachedS (sL bv)) (i : Int)) = false› (by rw [hh]; decide)
    | true =>
      have hgo' : meltUp bv0.length m (meltGo i (jumpsS (sL bv) + 1) (sL bv) (reachedS (sL bv))) = meltS (sL bv0) := by rw [← hgo]; unfold meltI; rw [if_pos hh]
      ((with_reducible apply W.seq); repeat (fail))
      ((with_reducible apply W.seq); repeat (first | ((with_reducible apply RS.callA); exact rfl; exact rfl; exact rfl; exact fun B6 hB6 => has_tf (reachedS (sL bv)) _ _ (i : Int) hif hrl B6 (setAt_up hs1 hB6.up)) | ((with_reducible apply RS.move); exact rfl; exact rfl; exact rfl) | ((with_reducible apply RS.not); exact rfl; exact rfl; exact rfl) | ((with_reducible apply RS.nil); exact mixed; kernel_rfl) | ((with_reducible apply W.reg); kernel_rfl) | ((with_reducible apply thenK_n))))
      repeat' ((first | (((with_reducible apply RS.splitD); exact rfl; exact rfl) <;> intro _) | ((((with_reducible apply RS.splitG); exact rfl; exact rfl) <;> intro _) <;> (fail_if_success (exact absurd ‹true = false› (by decide))) <;> (fail_if_success (exact absurd ‹false = true› (by decide)))) | (((with_reducible apply W.condD); exact rfl) <;> intro _) | ((((with_reducible apply W.cond); exact rfl) <;> intro _) <;> (fail_if_success (exact absurd ‹true = false› (by decide))) <;> (fail_if_success (exact absurd ‹false = true› (by decide))))) <;> repeat (first | ((with_reducible apply RS.move); exact rfl; exact rfl; exact rfl) | ((with_reducible apply RS.add1); exact rfl; exact rfl; exact rfl; exact rfl; omega) | ((with_reducible apply RS.nil); exact mixed; kernel_rfl) | ((with_reducible apply W.reg); kernel_rfl) | ((with_reducible apply W.block)) | ((with_reducible apply W.exit)) | ((with_reducible apply W.skip)) | ((with_reducible apply thenK_n)) | ((with_reducible apply thenK_e)) | ((with_reducible apply blockK_hit); exact rfl)))
      · exact absurd ‹(!hasS (reachedS (sL bv)) (i : Int)) = true› (by rw [hh]; decide)
      have hArn : ∀ a, Ar = some a → h.n ≤ a.block := fun a ha => Nat.le_trans (Nat.le_trans hI.off.1 hB1.le) (hn1 a ha)
      generalize hr0 : reachedS (sL bv) = r0 at *
      refine W.loopN (X := Nat × List BV × SetS) (fun x => [(0, .pointer (some ⟨fb, 0, none⟩)), (10, .int .i64 (f.blocks.length : Int)), (11, .int .i64 (i : Int)), (2, .int .i64 (i : Int)), (3, .slice Ar r0.length cr)])
        (fun x B => MeltI h bb bv0 fb f A1 c1 A2 c2 c3 x.2.1 B ∧ SetAt B Ar x.2.2 ∧ x.2.2.length = r0.length ∧ jumpsS (sL x.2.1) < x.1 ∧ meltUp bv0.length m (meltGo i x.1 (sL x.2.1) x.2.2) = meltS (sL bv0)) (fun x => x.1)
        (fun B' a => ⟨(jumpsS (sL bv) + 1, bv, r0), ?_, ⟨hI1.up sH1.dom a.oldH, setAt_up hs1 a.up, rfl, Nat.lt_succ_self _, hgo'⟩⟩) ?_
      · (repeat' (first | exact trivial | exact rfl | apply And.intro)); done
      rintro ⟨q, bw, r⟩ B2 π2 sB2 ⟨hJ, hsr, hrl2, hq, hgo2⟩
      dsimp only at hJ hsr hrl2 hq hgo2 ⊢
      rw [← hrl2]
      obtain ⟨q', rfl⟩ : ∃ q', q = q' + 1 := ⟨q - 1, by omega⟩
      have hF := hJ.fn.m
      have hFn := sB2.dom _ _ hF
      have hO := hJ.ob.m
      have hOn := sB2.dom _ _ hO
      have hwl := hJ.len
      obtain ⟨b, hb⟩ : ∃ b, bw[i]? = some b := ⟨_, List.getElem?_eq_getElem (by omega)⟩
      rw [meltGo, sL_at hb] at hgo2
      have hgo2 : meltUp bv0.length m (if b.term.kind ≠ 1 ∨ b.term.goto = i ∨ b.term.goto = 0 ∨ countS (sL bw) r b.term.goto ≠ 1 then sL bw else meltGo i q' (meltAt (sL bw) i b.term.goto) (outS r b.term.goto)) = meltS (sL bv0) := hgo2
      with_reducible apply W.block
      ((with_reducible apply W.seq); repeat (first | ((with_reducible apply RS.indexAddrS); exact rfl; exact rfl; exact rfl; exact rfl; exact rfl; omega) | ((with_reducible apply RS.load1B); exact rfl; exact rfl; exact rfl; exact hF; exact hFn; exact rfl) | ((with_reducible apply RS.loadNB); exact rfl; exact rfl; exact rfl; exact hO; exact hOn; exact (bv_term hb (by omega)).2; exact (bv_term hb (by omega)).1) | ((with_reducible apply RS.nilCheck); exact rfl; exact rfl; exact rfl) | ((with_reducible apply RS.move); exact rfl; exact rfl; exact rfl) | ((with_reducible apply RS.fieldAddr); exact rfl; exact rfl; exact rfl) | ((with_reducible apply RS.store); exact rfl; exact rfl; exact rfl; exact rfl; exact rfl; exact Nat.le_of_ble_eq_true rfl; exact rfl; exact rfl; exact rfl) | ((with_reducible apply RS.alloc); exact rfl; exact rfl) | ((with_reducible apply RS.nil); exact mixed; kernel_rfl) | ((with_reducible apply W.reg); kernel_rfl) | ((with_reducible apply thenK_n))))
      refine W.absorbX fun B3 π3 a3 => ?_
      have hqb : B3.m (π2 0) = some ⟨⟨termC b.term⟩, 45⟩ := a3.loc 0 (Nat.lt_succ_self 0)
      have hq3 : B2.n ≤ π2 0 := a3.lo 0 (Nat.lt_succ_self 0)
      generalize π2 0 = tb at *
      have hqbn := a3.dom _ _ hqb
      have hJ3 := hJ.up sB2.dom a3.oldH
      have hsr3 := setAt_up hsr a3.up
      have hfat3 := hJ3.fn.at hJ3.ob (by rw [hJ3.len]; exact hfl)
      have hwlen : (sL bw).length ≤ 100000 := by rw [sL_length]; omega
      have hrl3 : r.length ≤ 1000000000 := by rw [hrl2, ← hr0, reachedS_len]; rw [sL_length]; omega
      by_cases hc : b.term.kind ≠ 1 ∨ b.term.goto = i ∨ b.term.goto = 0 ∨ countS (sL bw) r b.term.goto ≠ 1
      · rw [if_pos hc] at hgo2
        ((with_reducible apply W.seq); repeat (fail))
        ((with_reducible apply W.seq); repeat (first | ((with_reducible apply RS.load1B); exact rfl; exact rfl; exact rfl; exact hqb; exact hqbn; exact rfl) | ((with_reducible apply RS.move); exact rfl; exact rfl; exact rfl) | ((with_reducible apply RS.cmpC); exact rfl; exact rfl; exact rfl; exact rfl; exact rfl) | ((with_reducible apply RS.fieldAddr); exact rfl; exact rfl; exact rfl) | ((with_reducible apply W.reg); kernel_rfl)))
        repeat' ((first | (((with_reducible apply RS.splitD); exact rfl; exact rfl) <;> intro _) | ((((with_reducible apply RS.splitG); exact rfl; exact rfl) <;> intro _) <;> (fail_if_success (exact absurd ‹true = false› (by decide))) <;> (fail_if_success (exact absurd ‹false = true› (by decide)))) | (((with_reducible apply W.condD); exact rfl) <;> intro _) | ((((with_reducible apply W.cond); exact rfl) <;> intro _) <;> (fail_if_success (exact absurd ‹true = false› (by decide))) <;> (fail_if_success (exact absurd ‹false = true› (by decide))))) <;> repeat (first | ((with_reducible apply RS.callA); exact rfl; exact rfl; exact rfl; exact fun B6 hB6 => count_tf fb f.regs (some ⟨bb, 0, none⟩) c3 (sL bw) r Ar cr b.term.goto hwlen hrl3 B6 (hfat3.up hB6.up) (setAt_up hsr3 hB6.up)) | ((with_reducible apply RS.load1B); exact rfl; exact rfl; exact rfl; exact hqb; exact hqbn; exact rfl) | ((with_reducible apply RS.nilCheck); exact rfl; exact rfl; exact rfl) | ((with_reducible apply RS.move); exact rfl; exact rfl; exact rfl) | ((with_reducible apply RS.pickT); exact rfl; exact rfl; exact rfl; exact rfl) | ((with_reducible apply RS.pickF); exact rfl; exact rfl; exact rfl; exact rfl) | ((with_reducible apply RS.cmpC); exact rfl; exact rfl; exact rfl; exact rfl; exact rfl) | ((with_reducible apply RS.add1); exact rfl; exact rfl; exact rfl; exact rfl; omega) | ((with_reducible apply RS.bin); exact rfl; exact rfl; exact rfl; exact rfl; exact rfl) | ((with_reducible apply RS.fieldAddr); exact rfl; exact rfl; exact rfl) | ((with_reducible apply RS.skip); exact rfl; exact rfl) | ((with_reducible apply RS.nil); exact mixed; kernel_rfl) | ((with_reducible apply W.seq)) | ((with_reducible apply W.reg); kernel_rfl) | ((with_reducible apply W.exit)) | ((with_reducible apply W.skip)) | ((with_reducible apply W.condT); kernel_rfl; exact rfl) | ((with_reducible apply thenK_n)) | ((with_reducible apply thenK_e)) | ((with_reducible apply blockK_n)) | ((with_reducible apply blockK_hit); exact rfl) | ((with_reducible apply blockK_miss); exact rfl) | ((with_reducible apply roundN_e))))
        rotate_left 4
        · exfalso
          have e1 : b.term.kind = 1 := by simpa using ‹(b.term.kind != 1) = false›
          have e4 : countS (sL bw) r b.term.goto = 1 := by
            have := ‹(((countS (sL bw) r b.term.goto : Nat) : Int) != 1) = false›
            simp at this
            omega
          omega
        all_goals
          refine roundN_n rfl fun B' a => ⟨(i + 1, bw), ?_, ⟨hJ3.up a3.dom a.oldH, by omega, by rw [hmm]; exact hgo2⟩, ?_⟩
          · (repeat' (first | exact trivial | exact rfl | apply And.intro)); done
          · show bv0.length - (i + 1) < bv0.length - i
            omega
      · rw [if_neg hc] at hgo2
        simp only [not_or, Decidable.not_not] at hc
        obtain ⟨hc1, hc2, hc3, hc4⟩ := hc
        ((with_reducible apply W.seq); repeat (fail))
        ((with_reducible apply W.seq); repeat (first | ((with_reducible apply RS.callA); exact rfl; exact rfl; exact rfl; exact fun B6 hB6 => count_tf fb f.regs (some ⟨bb, 0, none⟩) c3 (sL bw) r Ar cr b.term.goto hwlen hrl3 B6 (hfat3.up hB6.up) (setAt_up hsr3 hB6.up)) | ((with_reducible apply RS.load1B); exact rfl; exact rfl; exact rfl; exact hqb; exact hqbn; exact rfl) | ((with_reducible apply RS.move); exact rfl; exact rfl; exact rfl) | ((with_reducible apply RS.pickF); exact rfl; exact rfl; exact rfl; exact rfl) | ((with_reducible apply RS.cmpF); exact rfl; exact rfl; exact rfl; exact rfl; (simp only [cmpN]; omega)) | ((with_reducible apply RS.fieldAddr); exact rfl; exact rfl; exact rfl) | ((with_reducible apply RS.nil); exact mixed; kernel_rfl) | ((with_reducible apply W.reg); kernel_rfl) | ((with_reducible apply W.skip)) | ((with_reducible apply W.condF); kernel_rfl; exact rfl) | ((with_reducible apply thenK_n))))
        repeat' ((first | (((with_reducible apply RS.splitD); exact rfl; exact rfl) <;> intro _) | ((((with_reducible apply RS.splitG); exact rfl; exact rfl) <;> intro _) <;> (fail_if_success (exact absurd ‹true = false› (by decide))) <;> (fail_if_success (exact absurd ‹false = true› (by decide)))) | (((with_reducible apply W.condD); exact rfl) <;> intro _) | ((((with_reducible apply W.cond); exact rfl) <;> intro _) <;> (fail_if_success (exact absurd ‹true = false› (by decide))) <;> (fail_if_success (exact absurd ‹false = true› (by decide))))) <;> repeat (fail))
        have htk := hJ.tgt b.s (List.mem_of_getElem? (sL_at hb)) b.term.goto (by show _ ∈ nextS b.term; rw [nextS_1 hc1]; simp)
        rw [sL_length] at htk
        obtain ⟨g, hg⟩ : ∃ g : Nat, b.term.goto = (g : Int) := ⟨b.term.goto.toNat, by omega⟩
        have hgt : b.term.goto.toNat = g := by omega
        have hgi : g ≠ i := by omega
        obtain ⟨o, ho⟩ : ∃ o, bw[g]? = some o := ⟨_, List.getElem?_eq_getElem (by omega)⟩
        have hF3 := hJ3.fn.m
        have hF3n := a3.dom _ _ hF3
        have hO3 := hJ3.ob.m
        have hO3n := a3.dom _ _ hO3
        ((with_reducible apply W.seq); repeat (first | ((with_reducible apply RS.indexAddrS); exact rfl; exact rfl; exact rfl; exact rfl; exact hg; omega) | ((with_reducible apply RS.load1B); exact rfl; exact rfl; exact rfl; exact hqb; exact hqbn; exact rfl) | ((with_reducible apply RS.load1B); exact rfl; exact rfl; exact rfl; exact hF3; exact hF3n; exact rfl) | ((with_reducible apply RS.loadNB); exact rfl; exact rfl; exact rfl; exact hO3; exact hO3n; exact (bv_block ho (by omega)).2; exact (bv_block ho (by omega)).1) | ((with_reducible apply RS.nilCheck); exact rfl; exact rfl; exact rfl) | ((with_reducible apply RS.move); exact rfl; exact rfl; exact rfl) | ((with_reducible apply RS.fieldAddr); exact rfl; exact rfl; exact rfl) | ((with_reducible apply RS.store); exact rfl; exact rfl; exact rfl; exact rfl; exact rfl; exact Nat.le_of_ble_eq_true rfl; exact rfl; exact rfl; exact rfl) | ((with_reducible apply RS.alloc); exact rfl; exact rfl) | ((with_reducible apply RS.nil); exact mixed; kernel_rfl) | ((with_reducible apply W.reg); kernel_rfl) | ((with_reducible apply thenK_n))))
        refine W.absorbX fun B4 π4 a4 => ?_
        have hqo : B4.m (π3 0) = some ⟨⟨blockC o.s o.A o.k⟩, 47⟩ := a4.loc 0 (Nat.lt_succ_self 0)
        have hq4 : B3.n ≤ π3 0 := a4.lo 0 (Nat.lt_succ_self 0)
        generalize π3 0 = tc at *
        have hqon := a4.dom _ _ hqo
        have hJ4 := hJ3.up a3.dom a4.oldH
        have hsr4 := setAt_up hsr3 a4.up
        have hqb4 := a4.up _ _ hqb
        have hF4 := hJ4.fn.m
        have hF4n := a4.dom _ _ hF4
        have hO4 := hJ4.ob.m
        have hO4n := a4.dom _ _ hO4
        have hbm := List.mem_of_getElem? hb
        have hom := List.mem_of_getElem? ho
        have hbt := totB_le hbm
        have hot := totB_le hom
        have htt := hJ.tot
        have hobb : ∀ {x : BV}, x ∈ bw → x.ins ≠ [] → x.r ≠ bb := fun hx hn => hJ4.ob.row_ne hx hn hO4 (by simp)
        have hofb : ∀ {x : BV}, x ∈ bw → x.ins ≠ [] → x.r ≠ fb := fun hx hn => hJ4.ob.row_ne hx hn hF4 (by simp)
        with_reducible apply W.seq
        refine W.joinNT (X := Nat) (fun _ => [(0, .pointer (some ⟨fb, 0, none⟩)), (10, .int .i64 (f.blocks.length : Int)), (11, .int .i64 (i : Int)), (2, .int .i64 (i : Int)), (3, .slice Ar r.length cr), (4, .pointer (some ⟨tb, 0, none⟩)), (5, .pointer (some ⟨tc, 0, none⟩))])
          (fun r' B => OwnB B bb (bw.set i ⟨b.ins ++ o.ins, r', b.term⟩) ∧ B.m fb = some ⟨⟨funcC f A1 c1 A2 c2 (some ⟨bb, 0, none⟩) c3⟩, 35⟩ ∧ B.m tb = some ⟨⟨termC b.term⟩, 45⟩ ∧ B.m tc = some ⟨⟨blockC o.s o.A o.k⟩, 47⟩ ∧ SetAt B Ar r ∧ OffS (Foot bb bv0) h B ∧ (b.ins ++ o.ins ≠ [] → Foot bb bw r' ∨ h.n ≤ r')) ?_ ?_
        · have hqo' : B4.m tc = some ⟨⟨rowVl 12 o.r o.ins :: termC o.term⟩, 47⟩ := by rw [← BVc_eq] at hqo; exact hqo
          have hnbr : ∀ {j : Nat} {x : Blk}, B4.m j = some x → x.elem ≠ 64 → b.ins ≠ [] → j ≠ b.r := fun hx he hn => (hJ4.ob.row_ne hbm hn hx he).symm
          have fin : ∀ (r' : Nat) (B' : Hp), B'.m bb = some ⟨⟨((bw.set i ⟨b.ins ++ o.ins, r', b.term⟩).map BV.c).flatten⟩, 47⟩ → B4.n ≤ B'.n → (∀ j, j < B4.n → j ≠ bb → (b.ins ≠ [] → o.ins ≠ [] → j ≠ b.r) → B'.m j = B4.m j) →
              (b.ins ++ o.ins ≠ [] → rwM ≤ r' ∧ B'.m r' = some ⟨⟨((b.ins ++ o.ins).map insVC).flatten⟩, 64⟩) → (b.ins ++ o.ins ≠ [] → (o.ins = [] ∧ r' = b.r) ∨ B4.n ≤ r') →
              OwnB B' bb (bw.set i ⟨b.ins ++ o.ins, r', b.term⟩) ∧ B'.m fb = some ⟨⟨funcC f A1 c1 A2 c2 (some ⟨bb, 0, none⟩) c3⟩, 35⟩ ∧ B'.m tb = some ⟨⟨termC b.term⟩, 45⟩ ∧ B'.m tc = some ⟨⟨blockC o.s o.A o.k⟩, 47⟩ ∧ SetAt B' Ar r ∧ OffS (Foot bb bv0) h B' ∧ (b.ins ++ o.ins ≠ [] → Foot bb bw r' ∨ h.n ≤ r') := by
            intro r' B' hm' hn kn hnew hr'
            obtain ⟨g1, g2, g3⟩ := r8_close hJ4 a4.dom hb ho hgi r' hm' hn kn hnew hr'
            have kk : ∀ {j : Nat} {x : Blk}, B4.m j = some x → j ≠ bb → x.elem ≠ 64 → B'.m j = some x := fun hx h1 he => by
              rw [kn _ (a4.dom _ _ hx) h1 fun hbn _ => hnbr hx he hbn]; exact hx
            refine ⟨g1, kk hF4 (ne_of_elem hF4 hO4 (by simp)) (by simp), kk hqb4 (ne_of_elem hqb4 hO4 (by simp)) (by simp), kk hqo (by have := hO3n; omega) (by simp), ?_, g2, g3⟩
            cases hsr4 with
            | none => exact .none
            | some hm hr => exact .some (kk hm (ne_of_elem hm hO4 (by simp)) (by simp)) hr
          have hcell : ∀ {v : Value}, rowVl 12 b.r b.ins = v → (bw.map BV.c).flatten[0 + i * 9 + 0]? = some v := fun hv => bv_cell0 hb (by omega) hv
          by_cases hoe : o.ins = []
          · have hvo : rowVl 12 o.r o.ins = .slice none 0 0 := by rw [hoe]; rfl
            rw [hvo] at hqo'
            by_cases hbe : b.ins = []
            · have hvb : rowVl 12 b.r b.ins = .slice none 0 0 := by rw [hbe]; rfl
              have hnil : (Value.slice none 0 0) = rowVl 12 0 (b.ins ++ o.ins) := by rw [hbe, hoe]; rfl
              obtain ⟨r8, hr8⟩ : ∃ r8 : Nat, r8 = 0 := ⟨0, rfl⟩
              have hput : (Value.slice none 0 0) = rowVl 12 r8 (b.ins ++ o.ins) := by rw [hbe, hoe]; rfl
              have hOs := hO4
              have hOsn := hO4n
              repeat (first | ((with_reducible apply RS.indexAddrS); exact rfl; exact rfl; exact rfl; exact rfl; exact rfl; omega) | ((with_reducible apply RS.load1X); exact rfl; exact rfl; exact rfl; exact hF4; exact hF4n; exact rfl) | ((with_reducible apply RS.load1B); exact rfl; exact rfl; exact rfl; exact hO4; exact hO4n; exact hcell hvb) | ((with_reducible apply RS.load1B); exact rfl; exact rfl; exact rfl; exact hqo'; exact hqon; exact rfl) | ((with_reducible apply RS.appendNil0); exact rfl; exact rfl; exact rfl; exact rfl; exact rfl; kernel_rfl) | ((with_reducible apply RS.storeB); exact rfl; exact rfl; exact rfl; exact hOs; exact hOsn; exact hJ4.ob.rw; (have := (bv_block hb (off := i * 9) rfl).2; omega); exact rfl; exact rfl; exact bv_put0 (b' := ⟨b.ins ++ o.ins, r8, b.term⟩) hb (by omega) hput rfl) | ((with_reducible apply RS.nilCheck); exact rfl; exact rfl; exact rfl) | ((with_reducible apply RS.move); exact rfl; exact rfl; exact rfl) | ((with_reducible apply RS.fieldAddr); exact rfl; exact rfl; exact rfl) | ((with_reducible apply RS.nil); exact mixed; kernel_rfl) | ((with_reducible apply W.reg); kernel_rfl))
              refine joinN_n rfl fun B' a => ⟨r8, ?_, fin r8 B' (a.up _ _ ?_) a.le (fun j hj h1 _ => ?_) (fun hn => absurd (by rw [hbe, hoe]; rfl) hn) (fun hn => absurd (by rw [hbe, hoe]; rfl) hn)⟩
              · (repeat' (first | exact trivial | exact rfl | apply And.intro)); done
              · show (if bb = bb then _ else _) = _; rw [if_pos rfl]
              · rw [a.old j hj]; show (if j = bb then _ else _) = _; rw [if_neg h1]
            · have hrow := (hJ4.ob.row b hbm hbe).2
              have hrowr := (hJ4.ob.row b hbm hbe).1
              have hrown := a4.dom _ _ hrow
              have hvb := rowVl_ne (sz := 12) (r := b.r) hbe
              obtain ⟨r8, hr8⟩ : ∃ r8 : Nat, r8 = b.r := ⟨_, rfl⟩
              have hput : (Value.slice (some ⟨b.r, 0, none⟩) b.ins.length (capOf 12)) = rowVl 12 r8 (b.ins ++ o.ins) := by rw [hr8, hoe, List.append_nil, hvb]
              have hOs := hO4
              have hOsn := hO4n
              repeat (first | ((with_reducible apply RS.indexAddrS); exact rfl; exact rfl; exact rfl; exact rfl; exact rfl; omega) | ((with_reducible apply RS.load1X); exact rfl; exact rfl; exact rfl; exact hF4; exact hF4n; exact rfl) | ((with_reducible apply RS.load1B); exact rfl; exact rfl; exact rfl; exact hO4; exact hO4n; exact hcell hvb) | ((with_reducible apply RS.load1B); exact rfl; exact rfl; exact rfl; exact hqo'; exact hqon; exact rfl) | ((with_reducible apply RS.appendRow0); exact rfl; exact rfl; exact rfl; exact rfl; exact rfl; exact hrow; exact hrown; exact hrowr; exact Nat.le_of_eq (ins_len _).symm) | ((with_reducible apply RS.storeB); exact rfl; exact rfl; exact rfl; exact hOs; exact hOsn; exact hJ4.ob.rw; (have := (bv_block hb (off := i * 9) rfl).2; omega); exact rfl; exact rfl; exact bv_put0 (b' := ⟨b.ins ++ o.ins, r8, b.term⟩) hb (by omega) hput rfl) | ((with_reducible apply RS.nilCheck); exact rfl; exact rfl; exact rfl) | ((with_reducible apply RS.move); exact rfl; exact rfl; exact rfl) | ((with_reducible apply RS.fieldAddr); exact rfl; exact rfl; exact rfl) | ((with_reducible apply RS.nil); exact mixed; kernel_rfl) | ((with_reducible apply W.reg); kernel_rfl))
              refine joinN_n rfl fun B' a => ⟨r8, ?_, fin r8 B' (a.up _ _ ?_) a.le (fun j hj h1 _ => ?_) (fun _ => ⟨by rw [hr8]; exact hrowr, ?_⟩) (fun _ => .inl ⟨hoe, hr8⟩)⟩
              · (repeat' (first | exact trivial | exact rfl | apply And.intro)); done
              · show (if bb = bb then _ else _) = _; rw [if_pos rfl]
              · rw [a.old j hj]; show (if j = bb then _ else _) = _; rw [if_neg h1]
              · refine a.up _ _ ?_
                show (if r8 = bb then _ else B4.m r8) = _
                rw [if_neg (by rw [hr8]; exact hobb hbm hbe), hr8, hoe, List.append_nil]
                exact hrow
          · have hro := (hJ4.ob.row o hom hoe).2
            have hron := a4.dom _ _ hro
            have hopos : 0 < o.ins.length := List.length_pos_iff.2 hoe
            have hvo := rowVl_ne (sz := 12) (r := o.r) hoe
            rw [hvo] at hqo'
            by_cases hbe : b.ins = []
            · have hvb : rowVl 12 b.r b.ins = .slice none 0 0 := by rw [hbe]; rfl
              obtain ⟨r8, hr8⟩ : ∃ r8 : Nat, r8 = π4 0 := ⟨_, rfl⟩
              have hput : (Value.slice (some ⟨π4 0, 0, none⟩) o.ins.length (capOf 12)) = rowVl 12 r8 (b.ins ++ o.ins) := by rw [hr8, hbe, List.nil_append, rowVl_ne hoe]
              have hOs := hO4
              have hOsn := hO4n
              repeat (first | ((with_reducible apply RS.indexAddrS); exact rfl; exact rfl; exact rfl; exact rfl; exact rfl; omega) | ((with_reducible apply RS.load1X); exact rfl; exact rfl; exact rfl; exact hF4; exact hF4n; exact rfl) | ((with_reducible apply RS.load1B); exact rfl; exact rfl; exact rfl; exact hO4; exact hO4n; exact hcell hvb) | ((with_reducible apply RS.load1B); exact rfl; exact rfl; exact rfl; exact hqo'; exact hqon; exact rfl) | ((with_reducible apply RS.appendNilB); exact rfl; exact rfl; exact rfl; exact rfl; exact rfl; exact rfl; exact hro; exact hron; exact Nat.le_of_eq (by rw [ins_len, Nat.zero_add]); exact hopos; omega; omega; exact ins_all _) | ((with_reducible apply RS.storeB); exact rfl; exact rfl; exact rfl; exact hOs; exact hOsn; exact hJ4.ob.rw; (have := (bv_block hb (off := i * 9) rfl).2; omega); exact rfl; exact rfl; exact bv_put0 (b' := ⟨b.ins ++ o.ins, r8, b.term⟩) hb (by omega) hput rfl) | ((with_reducible apply RS.nilCheck); exact rfl; exact rfl; exact rfl) | ((with_reducible apply RS.move); exact rfl; exact rfl; exact rfl) | ((with_reducible apply RS.fieldAddr); exact rfl; exact rfl; exact rfl) | ((with_reducible apply RS.nil); exact mixed; kernel_rfl) | ((with_reducible apply W.reg); kernel_rfl))
              refine joinN_n rfl fun B' a => ?_
              have hlo : B4.n ≤ π4 0 := a.lo 0 (Nat.lt_succ_self 0)
              have hloc : B'.m (π4 0) = some ⟨⟨(o.ins.map insVC).flatten⟩, 64⟩ := a.loc 0 (Nat.lt_succ_self 0)
              refine ⟨r8, ?_, fin r8 B' (a.up _ _ ?_) a.le (fun j hj h1 _ => ?_) (fun _ => ⟨by rw [hr8]; exact Nat.le_trans a4.sat.rw hlo, ?_⟩) (fun _ => .inr (by rw [hr8]; exact hlo))⟩
              · (repeat' (first | exact trivial | exact rfl | apply And.intro)); done
              · show (if bb = bb then _ else _) = _; rw [if_pos rfl]
              · rw [a.old j hj]; show (if j = bb then _ else _) = _; rw [if_neg h1]
              · rw [hr8, hbe, List.nil_append]; exact hloc
            · have hrow := (hJ4.ob.row b hbm hbe).2
              have hrowr := (hJ4.ob.row b hbm hbe).1
              have hrown := a4.dom _ _ hrow
              have hvb := rowVl_ne (sz := 12) (r := b.r) hbe
              have hrf : b.r ≠ fb := hofb hbm hbe
              obtain ⟨r8, hr8⟩ : ∃ r8 : Nat, r8 = π4 0 := ⟨_, rfl⟩
              have hput : (Value.slice (some ⟨π4 0, 0, none⟩) (b.ins.length + o.ins.length) (capOf 12)) = rowVl 12 r8 (b.ins ++ o.ins) := by rw [hr8, rowVl_ne (by simp [hbe]), List.length_append]
              have hOs : (B4.kill b.r).m bb = some ⟨⟨(bw.map BV.c).flatten⟩, 47⟩ := by
                show (if bb = b.r then none else B4.m bb) = _
                rw [if_neg (fun e => hobb hbm hbe e.symm)]; exact hO4
              have hOsn := hO4n
              repeat (first | ((with_reducible apply RS.indexAddrS); exact rfl; exact rfl; exact rfl; exact rfl; exact rfl; omega) | ((with_reducible apply RS.load1X); exact rfl; exact rfl; exact rfl; exact hF4; exact hF4n; exact rfl) | ((with_reducible apply RS.load1B); exact rfl; exact rfl; exact rfl; exact hO4; exact hO4n; exact hcell hvb) | ((with_reducible apply RS.load1B); exact rfl; exact rfl; exact rfl; exact hqo'; exact hqon; exact rfl) | ((with_reducible apply RS.growX); exact rfl; exact rfl; exact rfl; exact rfl; exact rfl; exact rfl; exact hrow; exact hrown; exact hrowr; exact ins_len _; exact hro; exact hron; exact Nat.le_of_eq (by rw [ins_len, Nat.zero_add]); (rw [ins_all]; exact ins_one _); omega; omega) | ((with_reducible apply RS.nilX); exact mixed; (intro _; kernel_rfl); (intro _; exact sideOK_all (j := b.r) (b := fb) hrf (by repeat' (first | exact trivial | exact .inl rfl | exact .inr rfl | apply And.intro)))) | ((with_reducible apply RS.storeB); exact rfl; exact rfl; exact rfl; exact hOs; exact hOsn; exact hJ4.ob.rw; (have := (bv_block hb (off := i * 9) rfl).2; omega); exact rfl; exact rfl; exact bv_put0 (b' := ⟨b.ins ++ o.ins, r8, b.term⟩) hb (by omega) hput rfl) | ((with_reducible apply RS.nilCheck); exact rfl; exact rfl; exact rfl) | ((with_reducible apply RS.move); exact rfl; exact rfl; exact rfl) | ((with_reducible apply RS.fieldAddr); exact rfl; exact rfl; exact rfl) | ((with_reducible apply W.reg); kernel_rfl))
              refine joinN_n rfl fun B' a => ?_
              have hlo : B4.n ≤ π4 0 := a.lo 0 (Nat.lt_succ_self 0)
              have hloc : B'.m (π4 0) = some ⟨⟨(b.ins.map insVC).flatten ++ takeV 0 (o.ins.length * 12) (o.ins.map insVC).flatten⟩, 64⟩ := a.loc 0 (Nat.lt_succ_self 0)
              refine ⟨r8, ?_, fin r8 B' (a.up _ _ ?_) a.le (fun j hj h1 h2 => ?_) (fun _ => ⟨by rw [hr8]; exact Nat.le_trans a4.sat.rw hlo, ?_⟩) (fun _ => .inr (by rw [hr8]; exact hlo))⟩
              · (repeat' (first | exact trivial | exact rfl | apply And.intro)); done
              · show (if bb = bb then _ else _) = _; rw [if_pos rfl]
              · rw [a.old j hj]
                show (if j = bb then _ else (if j = b.r then none else B4.m j)) = _
                rw [if_neg h1, if_neg (h2 hbe hoe)]
              · rw [hr8, List.map_append, List.flatten_append]
                rw [ins_all] at hloc
                exact hloc
        · intro r8 B5 π5 sB5 hI5
          obtain ⟨ho5, hF5, hq5, ht5, hs5, hoff5, hfoot5⟩ := hI5
          have hO5 := ho5.m
          have hO5n := sB5.dom _ _ hO5
          have hF5n := sB5.dom _ _ hF5
          have hq5n := sB5.dom _ _ hq5
          have ht5n := sB5.dom _ _ ht5
          have hil : i < bw.length := by omega
          have hgl : g < bw.length := by omega
          have hb1 : (bw.set i ⟨b.ins ++ o.ins, r8, b.term⟩)[i]? = some ⟨b.ins ++ o.ins, r8, b.term⟩ := by rw [List.getElem?_set, if_pos rfl, if_pos hil]
          ((with_reducible apply W.seq); repeat (first | ((with_reducible apply RS.indexAddrS); exact rfl; exact rfl; exact rfl; exact rfl; exact rfl; omega) | ((with_reducible apply RS.load1B); exact rfl; exact rfl; exact rfl; exact hF5; exact hF5n; exact rfl) | ((with_reducible apply RS.loadNB); exact rfl; exact rfl; exact rfl; exact ht5; exact ht5n; exact Nat.le_of_ble_eq_true rfl; exact rfl) | ((with_reducible apply RS.storeB); exact rfl; exact rfl; exact rfl; exact hO5; exact hO5n; exact ho5.rw; exact (bv_term hb1 (by omega)).2; exact rfl; exact rfl; exact bv_write (o := 1) (b' := ⟨b.ins ++ o.ins, r8, o.term⟩) hb1 (by omega) (Nat.le_of_ble_eq_true rfl) rfl) | ((with_reducible apply RS.nilCheck); exact rfl; exact rfl; exact rfl) | ((with_reducible apply RS.move); exact rfl; exact rfl; exact rfl) | ((with_reducible apply RS.fieldAddr); exact rfl; exact rfl; exact rfl) | ((with_reducible apply RS.nil); exact mixed; kernel_rfl) | ((with_reducible apply W.reg); kernel_rfl) | ((with_reducible apply thenK_n))))
          have ho6 := ho5.setT hb1 o.term
          have hs6 : ∀ {j : Nat} {x : Blk}, B5.m j = some x → x.elem ≠ 47 → (B5.set bb ⟨⟨(((bw.set i ⟨b.ins ++ o.ins, r8, b.term⟩).set i ⟨b.ins ++ o.ins, r8, o.term⟩).map BV.c).flatten⟩, 47⟩).m j = some x := by
            intro j x hx he
            show (if j = bb then _ else _) = _
            rw [if_neg (ne_of_elem hx hO5 (by simpa using he))]
            exact hx
          have hF6 := hs6 hF5 (by simp)
          have hq6 := hs6 hq5 (by simp)
          have hO6 := ho6.m
          have hb6 : ((bw.set i ⟨b.ins ++ o.ins, r8, b.term⟩).set i ⟨b.ins ++ o.ins, r8, o.term⟩)[g]? = some o := by
            rw [List.set_set, List.getElem?_set, if_neg (fun e => hgi e.symm)]; exact ho
          ((with_reducible apply W.seq); repeat (first | ((with_reducible apply RS.indexAddrS); exact rfl; exact rfl; exact rfl; exact rfl; exact hg; omega) | ((with_reducible apply RS.load1B); exact rfl; exact rfl; exact rfl; exact hF6; exact hF5n; exact rfl) | ((with_reducible apply RS.load1B); exact rfl; exact rfl; exact rfl; exact hq6; exact hq5n; exact rfl) | ((with_reducible apply RS.callP); exact rfl; exact rfl; exact rfl; exact fun H => (numN_tf _ H); exact Nm_free (by simp)) | ((with_reducible apply RS.storeB); exact rfl; exact rfl; exact rfl; exact hO6; exact hO5n; exact ho5.rw; exact (bv_block hb6 (by omega)).2; exact rfl; exact rfl; exact bv_write (o := 0) (b' := ⟨[], 0, retT⟩) hb6 (by omega) (Nat.le_of_ble_eq_true rfl) rfl) | ((with_reducible apply RS.nilCheck); exact rfl; exact rfl; exact rfl) | ((with_reducible apply RS.move); exact rfl; exact rfl; exact rfl) | ((with_reducible apply RS.fieldAddr); exact rfl; exact rfl; exact rfl) | ((with_reducible apply RS.build); exact rfl; exact rfl; exact rfl; exact rfl) | ((with_reducible apply RS.nil); exact mixed; kernel_rfl) | ((with_reducible apply W.reg); kernel_rfl) | ((with_reducible apply thenK_n))))
          have hs7 : ∀ {j : Nat} {x y : Blk} {H : Hp}, H.m j = some x → x.elem ≠ 47 → H.m bb = some y → y.elem = 47 → ∀ z, (H.set bb z).m j = some x := by
            intro j x y H hx he hy hye z
            show (if j = bb then _ else _) = _
            rw [if_neg (ne_of_elem hx hy (by rw [hye]; exact he))]
            exact hx
          have hF7 := hs7 hF6 (by simp) hO6 rfl
          have hq7 := hs7 hq6 (by simp) hO6 rfl
          have hss6 : SetAt (B5.set bb ⟨⟨(((bw.set i ⟨b.ins ++ o.ins, r8, b.term⟩).set i ⟨b.ins ++ o.ins, r8, o.term⟩).map BV.c).flatten⟩, 47⟩) Ar r := by
            cases hs5 with
            | none => exact .none
            | some hm hr => exact .some (hs6 hm (by simp)) hr
          have hss7 : ∀ z, SetAt ((B5.set bb ⟨⟨(((bw.set i ⟨b.ins ++ o.ins, r8, b.term⟩).set i ⟨b.ins ++ o.ins, r8, o.term⟩).map BV.c).flatten⟩, 47⟩).set bb z) Ar r := by
            intro z
            cases hss6 with
            | none => exact .none
            | some hm hr => exact .some (hs7 hm (by simp) hO6 rfl z) hr
          have hgf : fitI b.term.goto := by unfold fitI; omega
          repeat (first | ((with_reducible apply RS.load1B); exact rfl; exact rfl; exact rfl; exact hq7 _; exact hq5n; exact rfl) | ((with_reducible apply RS.callEx); exact rfl; exact rfl; exact rfl; intro B8 hB8; refine ⟨_, TF.ex (out_tf r Ar cr b.term.goto hgf hrl3 B8 (setAt_up (hss7 _) hB8.up)), ?_⟩; rintro v H8 π8 ⟨rfl, rfl⟩ sH8 hle8) | ((with_reducible apply RS.nil); exact mixed; kernel_rfl) | ((with_reducible apply blockK_n)))
          have hg6 : g < ((bw.set i ⟨b.ins ++ o.ins, r8, b.term⟩).set i ⟨b.ins ++ o.ins, r8, o.term⟩).length := by simp; omega
          have ho7 := ho6.setI (i := g) (b1 := ⟨[], 0, retT⟩) (H := (B5.set bb ⟨⟨(((bw.set i ⟨b.ins ++ o.ins, r8, b.term⟩).set i ⟨b.ins ++ o.ins, r8, o.term⟩).map BV.c).flatten⟩, 47⟩).set bb ⟨⟨((((bw.set i ⟨b.ins ++ o.ins, r8, b.term⟩).set i ⟨b.ins ++ o.ins, r8, o.term⟩).set g ⟨[], 0, retT⟩).map BV.c).flatten⟩, 47⟩)
            (by show (if bb = bb then _ else _) = _; rw [if_pos rfl]) (fun j x hx he => hs7 hx (by rw [he]; simp) hO6 rfl _) (fun j x hx hji hxn => by
              have hrow := (ho6.row x (List.mem_of_getElem? hx) hxn).2
              show (if x.r = bb then _ else _) = _
              rw [if_neg (ne_of_elem hrow hO6 (by simp))]) (fun hn => absurd rfl hn) (fun x hx => by cases hx) (fun j x hx hji hxn hbn => absurd rfl hbn)
          have hss8 := setAt_up (hss7 ⟨⟨((((bw.set i ⟨b.ins ++ o.ins, r8, b.term⟩).set i ⟨b.ins ++ o.ins, r8, o.term⟩).set g ⟨[], 0, retT⟩).map BV.c).flatten⟩, 47⟩) hB8.up
          have ho8 := (ho7.up hB8.up).setH (s' := outS r b.term.goto) hss8
          have hF8 := setH_keep (s' := outS r b.term.goto) hss8 (hB8.up _ _ (hF7 ⟨⟨((((bw.set i ⟨b.ins ++ o.ins, r8, b.term⟩).set i ⟨b.ins ++ o.ins, r8, o.term⟩).set g ⟨[], 0, retT⟩).map BV.c).flatten⟩, 47⟩)) (by simp)
          have hoff8 : OffS (Foot bb bv0) h (setH B8 Ar (outS r b.term.goto)) := by
            have o1 : OffS (Foot bb bv0) B5 ((B5.set bb ⟨⟨(((bw.set i ⟨b.ins ++ o.ins, r8, b.term⟩).set i ⟨b.ins ++ o.ins, r8, o.term⟩).map BV.c).flatten⟩, 47⟩).set bb ⟨⟨((((bw.set i ⟨b.ins ++ o.ins, r8, b.term⟩).set i ⟨b.ins ++ o.ins, r8, o.term⟩).set g ⟨[], 0, retT⟩).map BV.c).flatten⟩, 47⟩) := by
              rw [Hp.set_set]
              exact (OffS.set B5 bb _).mono fun j _ e => .inl e
            refine ((hoff5.same o1).same hB8.oldH.off).trans (setH_off hss8) fun j hj hT => ?_
            have := hArn _ hT
            simp only at this
            omega
          have hse : sL (((bw.set i ⟨b.ins ++ o.ins, r8, b.term⟩).set i ⟨b.ins ++ o.ins, r8, o.term⟩).set g ⟨[], 0, retT⟩) = meltAt (sL bw) i b.term.goto := by
            rw [melt_eq (sL_at hb) (by rw [hgt]; exact sL_at ho), hgt, List.set_set, sL_set, sL_set]
            simp [BV.s]
          refine roundN_n rfl fun B' a => ⟨(q', ((bw.set i ⟨b.ins ++ o.ins, r8, b.term⟩).set i ⟨b.ins ++ o.ins, r8, o.term⟩).set g ⟨[], 0, retT⟩, outS r b.term.goto), ?_, ⟨⟨ho8.up a.up, ⟨a.up _ _ hF8, hfn.rw⟩, hoff8.same a.oldH.off, ?_, ?_, ?_, ?_⟩, ?_, ?_, ?_, ?_⟩, Nat.lt_succ_self _⟩
          · (repeat' (first | exact trivial | exact rfl | apply And.intro)); done
          · rintro j (e | ⟨x, hx, hxn, hxr⟩)
            · exact .inl (.inl e)
            · rw [List.set_set] at hx
              rcases mem_set hx with h1 | h1
              · rcases mem_set h1 with h2 | h2
                · exact hJ.foot j (.inr ⟨x, h2, hxn, hxr⟩)
                · subst h2
                  rcases hfoot5 hxn with h3 | h3
                  · rw [← hxr]; exact hJ.foot _ h3
                  · exact .inr (by rw [← hxr]; exact h3)
              · subst h1; exact absurd rfl hxn
          · simp; omega
          · rw [hse]; exact melt_tgt hJ.tgt (sL_at hb) (by rw [hgt]; exact sL_at ho)
          · have t1 := totB_set (c := ⟨b.ins ++ o.ins, r8, o.term⟩) hb
            have t2 := totB_set (bv := bw.set i ⟨b.ins ++ o.ins, r8, o.term⟩) (i := g) (b := o) (c := ⟨[], 0, retT⟩) (by rw [List.set_set] at hb6; exact hb6)
            rw [List.set_set]
            simp only [List.length_append, List.length_nil] at t1 t2
            show totB ((bw.set i ⟨b.ins ++ o.ins, r8, o.term⟩).set g ⟨[], 0, retT⟩) ≤ 1000000
            omega
          · exact setAt_up (setH_at hss8 (outS_length _ _)) a.up
          · exact outS_length _ _
          · rw [hse]
            have := melt_jumps (i := i) (k := b.term.goto) (sL_at hb) (by rw [hgt]; exact sL_at ho) (by rw [hgt]; exact hgi) hc1
            show jumpsS (meltAt (sL bw) i b.term.goto) < q'
            omega
          · rw [hse]; exact hgo2
  · have hz : bv0.length - i = 0 := by omega
    rw [hz, meltUp] at hgo
    repeat (first | ((with_reducible apply RS.cmpF); exact rfl; exact rfl; exact rfl; exact rfl; (simp only [cmpN]; omega)) | ((with_reducible apply RS.nil); exact mixed; kernel_rfl) | ((with_reducible apply W.seq)) | ((with_reducible apply W.reg); kernel_rfl) | ((with_reducible apply W.exit)) | ((with_reducible apply W.condF); kernel_rfl; exact rfl) | ((with_reducible apply thenK_n)) | ((with_reducible apply thenK_e)) | ((with_reducible apply blockK_hit); exact rfl) | ((with_reducible apply roundN_e)))
    exact endsK_normal [] .nil (fun B' a => ⟨bv, hI.up sB.dom a.oldH, hgo⟩)
end Go.Proofs.Ytjhloakacicdiaa
namespace Go.Proofs.Ytjhloakacicdiaa
open Go.AH
attribute [local irreducible] W RS
def keptV (r : SetS) : Nat → List BV → List BV
  | _, [] => []
  | i, b :: bv => if hasS r i = true then b :: keptV r (i + 1) bv else keptV r (i + 1) bv
theorem sL_keptV (r : SetS) : ∀ (bv : List BV) (i : Nat), sL (keptV r i bv) = keptL r i (sL bv) := by
  intro bv
  induction bv with
  | nil => intro i; rfl
  | cons b bv ih =>
    intro i
    have e : sL (b :: bv) = b.s :: sL bv := rfl
    rw [e, keptV, keptL]
    split
    · show b.s :: sL _ = _; rw [ih]
    · exact ih _
theorem keptV_take (r : SetS) : ∀ (bv : List BV) (j i : Nat) (b : BV), bv[i]? = some b → keptV r j (bv.take (i + 1)) = keptV r j (bv.take i) ++ (if hasS r ((j + i : Nat) : Int) = true then [b] else []) := by
  intro bv
  induction bv with
  | nil => intro j i b h; simp at h
  | cons a bv ih =>
    intro j i b h
    cases i with
    | zero =>
      simp only [List.getElem?_cons_zero, Option.some.injEq] at h
      subst h
      simp only [List.take_succ_cons, List.take_zero, keptV, Nat.add_zero, List.nil_append]
    | succ i =>
      have := ih (j + 1) i b (by simpa using h)
      rw [List.take_succ_cons, List.take_succ_cons, keptV, keptV, this]
      have e : j + 1 + i = j + (i + 1) := by omega
      rw [e]
      split <;> simp
theorem keptV_mem (r : SetS) : ∀ (bv : List BV) (i : Nat) (b : BV), b ∈ keptV r i bv → b ∈ bv := by
  intro bv
  induction bv with
  | nil => intro i b h; exact h
  | cons a bv ih =>
    intro i b h
    rw [keptV] at h
    split at h
    · rcases List.mem_cons.1 h with e | e
      · exact List.mem_cons.2 (.inl e)
      · exact List.mem_cons_of_mem _ (ih _ _ e)
    · exact List.mem_cons_of_mem _ (ih _ _ h)
theorem places_get (r : SetS) : ∀ (bv : List BV) (i n k : Nat), k < bv.length → (placesS r bv.length i n)[k]? = some ((n + (keptV r i (bv.take k)).length : Nat) : Int) := by
  intro bv
  induction bv with
  | nil => intro i n k h; simp at h
  | cons a bv ih =>
    intro i n k h
    cases k with
    | zero => simp [placesS, keptV]
    | succ k =>
      have hk : k < bv.length := by simpa using h
      rw [List.length_cons, placesS, List.getElem?_cons_succ, ih (i + 1) _ k hk, List.take_succ_cons, keptV]
      split
      · simp only [List.length_cons]; congr 2; omega
      · rfl
theorem places_len (r : SetS) : ∀ (m i n : Nat), (placesS r m i n).length = m := by
  intro m
  induction m with
  | zero => intro i n; rfl
  | succ m ih => intro i n; rw [placesS, List.length_cons, ih]
theorem keptV_sep {r : SetS} {bv : List BV} : ∀ {i : Nat}, (∀ (a b : Nat) (x y : BV), bv[a]? = some x → bv[b]? = some y → x.ins ≠ [] → y.ins ≠ [] → x.r = y.r → a = b) →
    ∀ (a b : Nat) (x y : BV), (keptV r i bv)[a]? = some x → (keptV r i bv)[b]? = some y → x.ins ≠ [] → y.ins ≠ [] → x.r = y.r → a = b := by
  induction bv with
  | nil => intro i _ a b x y h; simp [keptV] at h
  | cons c bv ih =>
    intro i hs
    have hs' : ∀ (a b : Nat) (x y : BV), bv[a]? = some x → bv[b]? = some y → x.ins ≠ [] → y.ins ≠ [] → x.r = y.r → a = b := fun a b x y h1 h2 h3 h4 h5 => by
      have := hs (a + 1) (b + 1) x y (by simpa using h1) (by simpa using h2) h3 h4 h5
      omega
    rw [keptV]
    split
    · intro a b x y h1 h2 h3 h4 h5
      have far : ∀ {k : Nat} {z : BV}, (keptV r (i + 1) bv)[k]? = some z → z.ins ≠ [] → c.ins ≠ [] → c.r ≠ z.r := by
        intro k z hz hzn hcn e
        obtain ⟨j, hj⟩ := List.mem_iff_getElem?.1 (keptV_mem r bv _ _ (List.mem_of_getElem? hz))
        have := hs 0 (j + 1) c z (by simp) (by simpa using hj) hcn hzn e
        omega
      cases a with
      | zero =>
        simp only [List.getElem?_cons_zero, Option.some.injEq] at h1
        subst h1
        cases b with
        | zero => rfl
        | succ b => exact absurd h5 (far (by simpa using h2) h4 h3)
      | succ a =>
        cases b with
        | zero =>
          simp only [List.getElem?_cons_zero, Option.some.injEq] at h2
          subst h2
          exact absurd h5.symm (far (by simpa using h1) h3 h4)
        | succ b =>
          have := ih hs' a b x y (by simpa using h1) (by simpa using h2) h3 h4 h5
          omega
    · exact ih hs'
theorem reachPush_has {k : Int} : ∀ (l : List Int) (s : SetS) (w : List Int), hasS s k = true → hasS (reachPush s w l).1 k = true := by
  intro l
  induction l with
  | nil => intro s w h; exact h
  | cons a l ih =>
    intro s w h
    unfold reachPush
    split
    · exact ih _ _ h
    · exact ih _ _ (by rw [hasS_put, h]; simp)
theorem reachGo_has {bl : List BlockS} {k : Int} : ∀ (m : Nat) (s : SetS) (w : List Int), hasS s k = true → hasS (reachGo bl m s w) k = true := by
  intro m
  induction m with
  | zero => intro s w h; exact h
  | succ m ih =>
    intro s w h
    cases w with
    | nil => exact h
    | cons n w => rw [reachGo]; exact ih _ _ (reachPush_has _ _ _ h)
theorem reached_zero {bl : List BlockS} (h : 0 < bl.length) : hasS (reachedS bl) 0 = true := by
  unfold reachedS
  rw [if_neg (by omega)]
  refine reachGo_has _ _ _ ?_
  rw [hasS_put, emptyS_length]
  simp
  exact .inr (by omega)
theorem ints_set (l : List Int) (i : Nat) (v : Int) : setL (l.map (.int .i64)) (0 + i * 1) [.int .i64 v] = (l.set i v).map (.int .i64) := by
  rw [setL_cons, setL_nil, List.map_set, Nat.zero_add, Nat.mul_one]
theorem rep_int (n : Nat) : repL (cellsV (.int .i64 0)) n = (List.replicate n (0 : Int)).map (.int .i64) := by
  induction n with
  | zero => rfl
  | succ n ih => rw [repL, ih, List.replicate_succ]; rfl
theorem OwnB.up35 {h H : Hp} {bb : Nat} {bv : List BV} (o : OwnB h bb bv) (hu : ∀ i b, h.m i = some b → b.elem ≠ 35 → H.m i = some b) : OwnB H bb bv :=
  ⟨o.rw, hu _ _ o.m (by simp), fun b hb hn => ⟨(o.row b hb hn).1, hu _ _ (o.row b hb hn).2 (by simp)⟩, fun b hb x hx hn => ⟨(o.arg b hb x hx hn).1, hu _ _ (o.arg b hb x hx hn).2 (by simp)⟩, o.sep⟩
set_option maxRecDepth 100000 in
theorem drop_ex (h : Hp) (bb : Nat) (bv : List BV) (f : FuncS) (A1 : Option Addr) (c1 : Nat) (A2 : Option Addr) (c2 c3 : Nat) (hfl : f.blocks = sL bv) (hpos : 0 < bv.length) (hlen : bv.length ≤ 100000)
    (hob : OwnB h bb bv) (htg : tgtOK (sL bv)) :
    EX Try.prog 29 [.agg ⟨funcC f A1 c1 A2 c2 (some ⟨bb, 0, none⟩) c3⟩] h (fun v h' => ∃ lb kv, v = .agg ⟨funcC { f with blocks := dropS (sL bv) } A1 c1 A2 c2 (some ⟨lb, 0, none⟩) (capOf 9)⟩ ∧ OwnB h' lb kv ∧ sL kv = dropS (sL bv) ∧ Old h h' ∧ ∀ i, Foot lb kv i → Foot bb bv i ∨ h.n ≤ i) := by
  refine EX.intro (fn := Try.f29) (c := (Try.f29.body.getD .skip)) Try.func29 (by kernel_rfl) Try.ntmps29 (by kernel_rfl) fun π s0 => ?_
  conv => arg 2; whnf
  have hd := s0.dom
  have hfl' : f.blocks.length = bv.length := by rw [hfl, sL_length]
  have hne' : sL bv ≠ [] := by
    intro e
    have h0 : (sL bv).length = 0 := by rw [e]; rfl
    rw [sL_length] at h0
    omega
  have hlen' : (sL bv).length ≤ 100000 := by rw [sL_length]; omega
  ((with_reducible apply W.seq); repeat (first | ((with_reducible apply RS.alloc); exact rfl; exact rfl) | ((with_reducible apply RS.box); exact rfl; exact rfl; exact rfl) | ((with_reducible apply RS.nil); exact mixed; kernel_rfl) | ((with_reducible apply W.reg); kernel_rfl) | ((with_reducible apply thenK_n))))
  refine W.absorbX fun B0 π0 a0 => ?_
  have hF : B0.m (π 0) = some ⟨⟨funcC f A1 c1 A2 c2 (some ⟨bb, 0, none⟩) c3⟩, 35⟩ := a0.loc 0 (Nat.lt_of_lt_of_le Nat.zero_lt_one (Nat.le_succ 1))
  have hfb : h.n ≤ π 0 := a0.lo 0 (Nat.lt_of_lt_of_le Nat.zero_lt_one (Nat.le_succ 1))
  have hrb : h.n ≤ π 1 := a0.lo 1 (Nat.lt_succ_self 1)
  have hRb : B0.m (π 1) = some ⟨⟨cellsV (.agg ⟨funcC ⟨⟨#[]⟩, 0, 0, 0, [], []⟩ none 0 none 0 none 0⟩)⟩, 35⟩ := a0.loc 1 (Nat.lt_succ_self 1)
  have hne01 : π 0 ≠ π 1 := fun e => absurd (a0.inj 0 1 (Nat.lt_of_lt_of_le Nat.zero_lt_one (Nat.le_succ 1)) (Nat.lt_succ_self 1) e) (by decide)
  generalize π 0 = fb at *
  generalize π 1 = rb at *
  have hRw : rwM ≤ rb := Nat.le_trans s0.rw hrb
  have hFw : rwM ≤ fb := Nat.le_trans s0.rw hfb
  have hFn := a0.dom _ _ hF
  have hRn := a0.dom _ _ hRb
  have hfat : FAt B0 fb f.regs (some ⟨bb, 0, none⟩) c3 (sL bv) := FunB.at ⟨hF, hFw⟩ (hob.up a0.up) hfl'
  ((with_reducible apply W.seq); repeat (first | ((with_reducible apply RS.callEx); exact rfl; exact rfl; exact rfl; intro B1 hB1; refine ⟨_, reached_ex fb f.regs (some ⟨bb, 0, none⟩) c3 (sL bv) hne' hlen' htg B1 (hfat.up hB1.up), ?_⟩; rintro v H1 π1 ⟨Ar, cr, rfl, hs1, ho1, hn1⟩ sH1 hle1) | ((with_reducible apply RS.assign); exact rfl; exact rfl; exact rfl) | ((with_reducible apply RS.nil); exact mixed; kernel_rfl) | ((with_reducible apply W.reg); kernel_rfl) | ((with_reducible apply thenK_n))))
  have hB1F := (hB1.oldH.trans ho1).up a0.dom
  replace hF := hB1F _ _ hF
  replace hRb := hB1F _ _ hRb
  replace hFn := sH1.dom _ _ hF
  replace hRn := sH1.dom _ _ hRb
  have old1 : Old h H1 := a0.oldH.trans (hB1.oldH.trans ho1)
  have hArn : ∀ a, Ar = some a → h.n ≤ a.block := fun a ha => Nat.le_trans (Nat.le_trans a0.le hB1.le) (hn1 a ha)
  ((with_reducible apply W.seq); repeat (first | ((with_reducible apply RS.load1B); exact rfl; exact rfl; exact rfl; exact hF; exact hFn; exact rfl) | ((with_reducible apply RS.makeSliceF); exact rfl; exact rfl; exact rfl; exact rfl; exact rfl; exact rfl; omega; exact rep_int _; (intro u hu; obtain ⟨w, _, rfl⟩ := List.mem_map.1 hu; exact bnd_int _ _ _)) | ((with_reducible apply RS.assign); exact rfl; exact rfl; exact rfl) | ((with_reducible apply RS.lenSl); exact rfl; exact rfl; exact rfl) | ((with_reducible apply RS.fieldAddr); exact rfl; exact rfl; exact rfl) | ((with_reducible apply RS.nil); exact mixed; kernel_rfl) | ((with_reducible apply W.reg); kernel_rfl) | ((with_reducible apply thenK_n))))
  ((with_reducible apply W.seq); repeat (first | ((with_reducible apply RS.assign); exact rfl; exact rfl; exact rfl) | ((with_reducible apply RS.nil); exact mixed; kernel_rfl) | ((with_reducible apply W.reg); kernel_rfl) | ((with_reducible apply thenK_n))))
  ((with_reducible apply W.seq); repeat (fail))
  refine W.absorbX fun B2 π2 a2 => ?_
  have hP0 : B2.m (π1 0) = some ⟨⟨(List.replicate f.blocks.length (0 : Int)).map (.int .i64)⟩, 3⟩ := a2.loc 0 (Nat.lt_succ_self 0)
  have hpb : H1.n ≤ π1 0 := a2.lo 0 (Nat.lt_succ_self 0)
  generalize π1 0 = pb at *
  have hPw : rwM ≤ pb := Nat.le_trans sH1.rw hpb
  replace hF := a2.up _ _ hF
  replace hRb := a2.up _ _ hRb
  have old2 : Old h B2 := old1.trans a2.oldH
  replace hs1 := setAt_up hs1 a2.up
  generalize hr0 : reachedS (sL bv) = r at *
  have hrl : r.length ≤ 1000000000 := by rw [← hr0, reachedS_len, sL_length]; omega
  have hFn2 := a2.dom _ _ hF
  replace hFn := hFn2
  ((with_reducible apply W.seq); repeat (first | ((with_reducible apply RS.load1B); exact rfl; exact rfl; exact rfl; exact hF; exact hFn; exact rfl) | ((with_reducible apply RS.move); exact rfl; exact rfl; exact rfl) | ((with_reducible apply RS.lenSl); exact rfl; exact rfl; exact rfl) | ((with_reducible apply RS.fieldAddr); exact rfl; exact rfl; exact rfl) | ((with_reducible apply RS.nil); exact mixed; kernel_rfl) | ((with_reducible apply W.reg); kernel_rfl) | ((with_reducible apply W.block)) | ((with_reducible apply thenK_n))))
  refine W.loopN (X := Nat × List Int × Nat) (fun x => [(1, .pointer (some ⟨fb, 0, none⟩)), (2, .pointer (some ⟨rb, 0, none⟩)), (3, .slice Ar r.length cr), (4, .slice (some ⟨pb, 0, none⟩) f.blocks.length f.blocks.length), (5, rowVl 9 x.2.2 ((keptV r 0 (bv.take x.1)).map BV.c)), (16, .slice (some ⟨bb, 0, none⟩) f.blocks.length c3), (17, .int .i64 (f.blocks.length : Int)), (18, .int .i64 (x.1 : Int))])
    (fun x B => x.1 ≤ bv.length ∧ Old h B ∧ B.m fb = some ⟨⟨funcC f A1 c1 A2 c2 (some ⟨bb, 0, none⟩) c3⟩, 35⟩ ∧ B.m rb = some ⟨⟨cellsV (.agg ⟨funcC ⟨⟨#[]⟩, 0, 0, 0, [], []⟩ none 0 none 0 none 0⟩)⟩, 35⟩ ∧ SetAt B Ar r ∧ (x.2.1.length = bv.length ∧ B.m pb = some ⟨⟨x.2.1.map (.int .i64)⟩, 3⟩ ∧ ∀ k, k < x.1 → x.2.1[k]? = some (((keptV r 0 (bv.take k)).length : Nat) : Int)) ∧ (keptV r 0 (bv.take x.1) ≠ [] → rwM ≤ x.2.2 ∧ h.n ≤ x.2.2 ∧ B.m x.2.2 = some ⟨⟨((keptV r 0 (bv.take x.1)).map BV.c).flatten⟩, 47⟩)) (fun x => bv.length - x.1)
    (fun B' a => ⟨(0, List.replicate f.blocks.length 0, 0), ?_, ⟨Nat.zero_le _, old2.trans a.oldH, a.up _ _ hF, a.up _ _ hRb, setAt_up hs1 a.up, ⟨by simp [hfl'], a.up _ _ hP0, fun k hk => by omega⟩, fun hn => absurd (by rw [List.take_zero]; rfl) hn⟩⟩) ?_
  · rw [List.take_zero]
    (repeat' (first | exact trivial | exact rfl | apply And.intro)); done
  rintro ⟨i, p, lb⟩ B π3 sB ⟨hi, hold, hF, hRb, hs, ⟨hpl, hP, hpk⟩, hK⟩
  dsimp only at hi hold hF hRb hs hpl hP hpk hK ⊢
  have hFn := sB.dom _ _ hF
  have hPn := sB.dom _ _ hP
  have ob := hob.up (hold.up hd)
  have hO := ob.m
  have hOn := sB.dom _ _ hO
  by_cases hlt : i < bv.length
  · obtain ⟨b, hb⟩ : ∃ b, bv[i]? = some b := ⟨_, List.getElem?_eq_getElem hlt⟩
    have hif : fitI (i : Int) := by unfold fitI; omega
    have hkn : (keptV r 0 (bv.take (i + 1))) = keptV r 0 (bv.take i) ++ (if hasS r (i : Int) = true then [b] else []) := by
      have := keptV_take r bv 0 i b hb
      rwa [Nat.zero_add] at this
    generalize hKi : keptV r 0 (bv.take i) = Ki at *
    ((with_reducible apply W.seq); repeat (first | ((with_reducible apply RS.cmpT); exact rfl; exact rfl; exact rfl; exact rfl; (simp only [cmpP]; omega)) | ((with_reducible apply RS.nil); exact mixed; kernel_rfl) | ((with_reducible apply W.reg); kernel_rfl) | ((with_reducible apply thenK_n))))
    ((with_reducible apply W.seq); repeat (first | ((with_reducible apply W.skip)) | ((with_reducible apply W.condT); kernel_rfl; exact rfl) | ((with_reducible apply thenK_n))))
    ((with_reducible apply W.seq); repeat (first | ((with_reducible apply W.block))))
    ((with_reducible apply W.seq); repeat (first | ((with_reducible apply RS.indexAddrS); exact rfl; exact rfl; exact rfl; exact rfl; exact rfl; omega) | ((with_reducible apply RS.loadNB); exact rfl; exact rfl; exact rfl; exact hO; exact hOn; exact (bv_block hb (by omega)).2; exact (bv_block hb (by omega)).1) | ((with_reducible apply RS.move); exact rfl; exact rfl; exact rfl) | ((with_reducible apply RS.assign); exact rfl; exact rfl; exact rfl) | ((with_reducible apply RS.store); exact rfl; exact rfl; exact rfl; exact rfl; exact rfl; exact Nat.le_of_ble_eq_true rfl; exact rfl; exact rfl; exact rfl) | ((with_reducible apply RS.alloc); exact rfl; exact rfl) | ((with_reducible apply RS.nil); exact mixed; kernel_rfl) | ((with_reducible apply W.reg); kernel_rfl) | ((with_reducible apply thenK_n))))
    refine W.absorbX fun B3 π4 a3 => ?_
    have hq : B3.m (π3 0) = some ⟨⟨blockC b.s b.A b.k⟩, 47⟩ := a3.loc 0 (Nat.lt_succ_self 0)
    have hqlo : B.n ≤ π3 0 := a3.lo 0 (Nat.lt_succ_self 0)
    generalize π3 0 = q at *
    have hP3 := a3.up _ _ hP
    have hP3n := a3.dom _ _ hP3
    have hKlen : Ki.length ≤ bv.length := by
      have : ∀ (l : List BV) (j : Nat), (keptV r j l).length ≤ l.length := by
        intro l
        induction l with
        | nil => intro j; simp [keptV]
        | cons a l ih =>
          intro j
          have := ih (j + 1)
          rw [keptV]
          split <;> simp <;> omega
      have h1 := this (bv.take i) 0
      rw [hKi] at h1
      simp at h1
      omega
    ((with_reducible apply W.seq); repeat (first | ((with_reducible apply RS.indexAddrS); exact rfl; exact rfl; exact rfl; exact rfl; exact rfl; omega) | ((with_reducible apply RS.lenRow); exact rfl; exact rfl; exact rfl) | ((with_reducible apply RS.storeB); exact rfl; exact rfl; exact rfl; exact hP3; exact hP3n; exact hPw; (simp only [List.length_map]; omega); exact rfl; exact rfl; exact ints_set p i _) | ((with_reducible apply RS.move); exact rfl; exact rfl; exact rfl) | ((with_reducible apply RS.nil); exact mixed; kernel_rfl) | ((with_reducible apply W.reg); kernel_rfl) | ((with_reducible apply thenK_n))))
    have keep : ∀ {j : Nat} {x : Blk}, B3.m j = some x → x.elem ≠ 3 → ∀ z, (B3.set pb z).m j = some x := by
      intro j x hx he z
      show (if j = pb then _ else _) = _
      rw [if_neg (ne_of_elem hx hP3 he)]
      exact hx
    have hs4 : ∀ z, SetAt (B3.set pb z) Ar r := by
      intro z
      have := setAt_up hs a3.up
      cases this with
      | none => exact .none
      | some hm hr => exact .some (keep hm (by simp) z) hr
    have hq4 := fun z => keep hq (by simp) z
    have hq4n : q < B3.n := a3.dom _ _ hq
    have hK3 : Ki ≠ [] → rwM ≤ lb ∧ h.n ≤ lb ∧ B3.m lb = some ⟨⟨(Ki.map BV.c).flatten⟩, 47⟩ := fun hn => ⟨(hK hn).1, (hK hn).2.1, a3.up _ _ (hK hn).2.2⟩
    have hKq : ∀ (z : Blk) (Bq : Hp), (∀ j x, (B3.set pb z).m j = some x → Bq.m j = some x) → Ki.map BV.c ≠ [] → rwM ≤ lb ∧ Bq.m lb = some ⟨⟨(Ki.map BV.c).flatten⟩, 47⟩ := by
      intro z Bq hu hn
      have hn : Ki ≠ [] := fun e => hn (by rw [e]; rfl)
      exact ⟨(hK3 hn).1, hu _ _ (keep (hK3 hn).2.2 (by simp) z)⟩
    have hp' : ∀ k, k < i + 1 → (p.set i ((Ki.map BV.c).length : Int))[k]? = some (((keptV r 0 (bv.take k)).length : Nat) : Int) := by
      intro k hk
      rw [List.getElem?_set]
      by_cases e : i = k
      · subst e
        rw [if_pos rfl, if_pos (by omega), hKi, List.length_map]
      · rw [if_neg e]; exact hpk k (by omega)
    have hpl' : (p.set i ((Ki.map BV.c).length : Int)).length = bv.length := by rw [List.length_set]; exact hpl
    have hF3 := a3.up _ _ hF
    have hRb3 := a3.up _ _ hRb
    have hpbn : h.n ≤ pb := Nat.le_trans old1.1 hpb
    have oldz : ∀ z, Old h (B3.set pb z) := by
      intro z
      exact ((hold.trans a3.oldH).off.same ((OffS.set B3 pb z).mono (T := fun j => h.n ≤ j) fun j _ e => by rw [e]; exact hpbn)).old fun j hj e => by omega
    ((with_reducible apply W.seq); repeat (first | ((with_reducible apply RS.callA); exact rfl; exact rfl; exact rfl; exact fun B6 hB6 => has_tf r _ _ (i : Int) hif hrl B6 (setAt_up (hs4 _) hB6.up)) | ((with_reducible apply RS.move); exact rfl; exact rfl; exact rfl) | ((with_reducible apply RS.nil); exact mixed; kernel_rfl) | ((with_reducible apply W.reg); kernel_rfl) | ((with_reducible apply thenK_n))))
    repeat' ((first | (((with_reducible apply RS.splitD); exact rfl; exact rfl) <;> intro _) | ((((with_reducible apply RS.splitG); exact rfl; exact rfl) <;> intro _) <;> (fail_if_success (exact absurd ‹true = false› (by decide))) <;> (fail_if_success (exact absurd ‹false = true› (by decide)))) | (((with_reducible apply W.condD); exact rfl) <;> intro _) | ((((with_reducible apply W.cond); exact rfl) <;> intro _) <;> (fail_if_success (exact absurd ‹true = false› (by decide))) <;> (fail_if_success (exact absurd ‹false = true› (by decide))))) <;> repeat (first | ((with_reducible apply RS.loadNB); exact rfl; exact rfl; exact rfl; exact hq4 _; exact hq4n; exact Nat.le_of_ble_eq_true rfl; exact rfl) | ((with_reducible apply RS.buildSlice); exact rfl; exact rfl; exact rfl; exact rfl; exact rfl; exact rfl; exact rfl; exact rfl) | ((with_reducible apply RS.pushRow (v := blockC b.s b.A b.k) (L := Ki.map BV.c)); exact rfl; exact rfl; exact rfl; exact rfl; exact rfl; exact rfl; exact fun Bq hBq => ⟨hBq.loc 0 (Nat.lt_succ_self 0), fun hn => hKq _ Bq hBq.up hn⟩; exact bv_wid Ki; exact rfl; exact rfl; (rw [List.length_map]; omega); (rw [List.length_map]; omega); intro B7 hB7 r7 H7 π7 sH7 hr7 hm7 hle7 hoff7) | ((with_reducible apply RS.move); exact rfl; exact rfl; exact rfl) | ((with_reducible apply RS.assign); exact rfl; exact rfl; exact rfl) | ((with_reducible apply RS.add1); exact rfl; exact rfl; exact rfl; exact rfl; omega) | ((with_reducible apply RS.nil); exact mixed; kernel_rfl) | ((with_reducible apply W.reg); kernel_rfl) | ((with_reducible apply W.skip)) | ((with_reducible apply thenK_n)) | ((with_reducible apply blockK_n))))
    · have hh : hasS r (i : Int) = true := ‹hasS r (i : Int) = true›
      rw [if_pos hh] at hkn
      have e1 : (Ki ++ [b]).map BV.c = Ki.map BV.c ++ [blockC b.s b.A b.k] := by rw [List.map_append, ← BVc_eq]; rfl
      have tr : ∀ {j : Nat} {x : Blk}, B7.m j = some x → x.elem ≠ 47 → H7.m j = some x := by
        intro j x hx he
        rw [hoff7 j (hB7.dom _ _ hx) fun hn e => by
          have := (hKq _ B7 hB7.up hn).2
          rw [← e, hx] at this
          injection this with this
          rw [this] at he
          exact he rfl]
        exact hx
      have old7 : Old h H7 := by
        refine (((oldz _).trans hB7.oldH).off.same (S := fun j => h.n ≤ j) ⟨hle7, fun j hj hn => hoff7 j hj fun hKn e => hn ?_⟩).old fun j hj e => by omega
        rw [e]
        exact (hK3 fun e => hKn (by rw [e]; rfl)).2.1
      have hr7n : h.n ≤ r7 := Nat.le_trans (Nat.le_trans (oldz ⟨⟨(p.set i ((Ki.map BV.c).length : Int)).map (.int .i64)⟩, 3⟩).1 hB7.le) hr7
      refine roundN_n rfl fun B' a => ⟨(i + 1, p.set i ((Ki.map BV.c).length : Int), r7), ?_, ⟨by omega, old7.trans a.oldH, a.up _ _ (tr (hB7.up _ _ (keep hF3 (by simp) _)) (by simp)), a.up _ _ (tr (hB7.up _ _ (keep hRb3 (by simp) _)) (by simp)), ?_, ⟨hpl', a.up _ _ (tr (hB7.up _ _ (by show (if pb = pb then _ else _) = _; rw [if_pos rfl])) (by simp)), hp'⟩, ?_⟩, ?_⟩
      · dsimp only
        rw [hkn, e1]
        (repeat' (first | exact trivial | exact rfl | apply And.intro)); done
      · have := setAt_up (hs4 ⟨⟨(p.set i ((Ki.map BV.c).length : Int)).map (.int .i64)⟩, 3⟩) hB7.up
        cases this with
        | none => exact .none
        | some hm hr => exact .some (a.up _ _ (tr hm (by simp))) hr
      · dsimp only
        rw [hkn, e1]
        exact fun _ => ⟨Nat.le_trans s0.rw hr7n, hr7n, a.up _ _ hm7⟩
      · show bv.length - (i + 1) < bv.length - i
        omega
    · have hh : hasS r (i : Int) = false := ‹hasS r (i : Int) = false›
      rw [if_neg (by rw [hh]; simp), List.append_nil] at hkn
      refine roundN_n rfl fun B' a => ⟨(i + 1, p.set i ((Ki.map BV.c).length : Int), lb), ?_, ⟨by omega, (oldz _).trans a.oldH, a.up _ _ (keep hF3 (by simp) _), a.up _ _ (keep hRb3 (by simp) _), setAt_up (hs4 _) a.up, ⟨hpl', a.up _ _ (by show (if pb = pb then _ else _) = _; rw [if_pos rfl]), hp'⟩, ?_⟩, ?_⟩
      · dsimp only
        rw [hkn]
        (repeat' (first | exact trivial | exact rfl | apply And.intro)); done
      · dsimp only
        rw [hkn]
        exact fun hn => ⟨(hK3 hn).1, (hK3 hn).2.1, a.up _ _ (keep (hK3 hn).2.2 (by simp) _)⟩
      · show bv.length - (i + 1) < bv.length - i
        omega
  · have hii : i = bv.length := by omega
    subst hii
    rw [List.take_length] at *
    generalize hKd : keptV r 0 bv = Kv at *
    have hKne : Kv ≠ [] := by
      rw [← hKd]
      cases bv with
      | nil => simp at hpos
      | cons b bv =>
        have hz : hasS r 0 = true := by rw [← hr0]; exact reached_zero (by rw [sL_length]; exact hpos)
        have hz : hasS r ((0 : Nat) : Int) = true := hz
        rw [keptV, if_pos hz]
        simp
    obtain ⟨hlr, hlh, hlm⟩ := hK hKne
    have hpe : p = placesS r bv.length 0 0 := by
      apply List.ext_getElem?
      intro k
      by_cases hk : k < bv.length
      · rw [hpk k hk, places_get r bv 0 0 k hk, Nat.zero_add]
      · rw [List.getElem?_eq_none_iff.2 (by omega), List.getElem?_eq_none_iff.2 (by rw [places_len]; omega)]
    have hKsub : ∀ b ∈ Kv, b ∈ bv := fun b hb => keptV_mem r bv 0 b (by rw [hKd]; exact hb)
    have hKw : OwnB B lb Kv := ⟨hlr, hlm, fun b hb hn => ob.row b (hKsub b hb) hn, fun b hb => ob.arg b (hKsub b hb), by rw [← hKd]; exact keptV_sep ob.sep⟩
    have hKl : Kv.length ≤ bv.length := by
      have : ∀ (l : List BV) (j : Nat), (keptV r j l).length ≤ l.length := by
        intro l
        induction l with
        | nil => intro j; simp [keptV]
        | cons a l ih =>
          intro j
          have := ih (j + 1)
          rw [keptV]
          split <;> simp <;> omega
      have h1 := this bv 0
      rwa [hKd] at h1
    obtain ⟨KV, hKV⟩ : ∃ KV : Nat → List BV, ∀ k, KV k = (Kv.take k).map (fun b => { b with term := placeT p b.term }) ++ Kv.drop k := ⟨_, fun k => rfl⟩
    have hKV0 : KV 0 = Kv := by rw [hKV]; simp
    have hKVl : ∀ k, (KV k).length = Kv.length := by intro k; rw [hKV]; simp; omega
    have hKVk : ∀ k b, Kv[k]? = some b → (KV k)[k]? = some b ∧ KV (k + 1) = (KV k).set k { b with term := placeT p b.term } := by
      intro k b hb
      have hk := (List.getElem?_eq_some_iff.1 hb).1
      have hlk : ((Kv.take k).map (fun b => { b with term := placeT p b.term })).length = k := by simp; omega
      obtain ⟨_, hb2⟩ := List.getElem?_eq_some_iff.1 hb
      have hdr : Kv.drop k = b :: Kv.drop (k + 1) := by rw [List.drop_eq_getElem_cons hk, hb2]
      rw [hKV, hKV]
      constructor
      · rw [List.getElem?_append_right (by omega), hlk, Nat.sub_self, hdr]; rfl
      · rw [List.set_append_right _ _ (by omega), hlk, Nat.sub_self, hdr, List.set_cons_zero, List.take_succ_eq_append_getElem hk, hb2]
        simp
    have hrv := rowVl_ne (sz := 9) (r := lb) (l := Kv.map BV.c) (by simpa using hKne)
    ((with_reducible apply W.seq); repeat (first | ((with_reducible apply RS.cmpF); exact rfl; exact rfl; exact rfl; exact rfl; (simp only [cmpN]; omega)) | ((with_reducible apply RS.nil); exact mixed; kernel_rfl) | ((with_reducible apply W.reg); kernel_rfl) | ((with_reducible apply thenK_n))))
    ((with_reducible apply W.seq); repeat (first | ((with_reducible apply W.exit)) | ((with_reducible apply W.condF); kernel_rfl; exact rfl) | ((with_reducible apply thenK_n)) | ((with_reducible apply thenK_e)) | ((with_reducible apply blockK_hit); exact rfl) | ((with_reducible apply roundN_e))))
    ((with_reducible apply W.seq); repeat (fail))
    ((with_reducible apply W.seq); repeat (first | ((with_reducible apply RS.lenRow); exact rfl; exact rfl; exact rfl) | ((with_reducible apply RS.move); exact rfl; exact rfl; exact rfl) | ((with_reducible apply RS.nil); exact mixed; kernel_rfl) | ((with_reducible apply W.reg); kernel_rfl) | ((with_reducible apply W.block)) | ((with_reducible apply thenK_n))))
    refine W.loopN (X := Nat) (fun k => [(1, .pointer (some ⟨fb, 0, none⟩)), (2, .pointer (some ⟨rb, 0, none⟩)), (4, .slice (some ⟨pb, 0, none⟩) f.blocks.length f.blocks.length), (5, .slice (some ⟨lb, 0, none⟩) (Kv.map BV.c).length (capOf 9)), (37, .int .i64 ((Kv.map BV.c).length : Int)), (38, .int .i64 (k : Int))])
      (fun k B => k ≤ Kv.length ∧ Old h B ∧ B.m fb = some ⟨⟨funcC f A1 c1 A2 c2 (some ⟨bb, 0, none⟩) c3⟩, 35⟩ ∧ B.m rb = some ⟨⟨cellsV (.agg ⟨funcC ⟨⟨#[]⟩, 0, 0, 0, [], []⟩ none 0 none 0 none 0⟩)⟩, 35⟩ ∧ B.m pb = some ⟨⟨p.map (.int .i64)⟩, 3⟩ ∧ OwnB B lb (KV k)) (fun k => Kv.length - k)
      (fun B' a => ⟨0, ?_, ⟨Nat.zero_le _, hold.trans a.oldH, a.up _ _ hF, a.up _ _ hRb, a.up _ _ hP, by rw [hKV0]; exact hKw.up a.up⟩⟩) ?_
    · rw [← hrv]
      (repeat' (first | exact trivial | exact rfl | apply And.intro)); done
    intro k B9 π9 sB9 hI9
    obtain ⟨hk9, old9, hF9, hRb9, hP9, ow⟩ := hI9
    have hF9n := sB9.dom _ _ hF9
    have hRb9n := sB9.dom _ _ hRb9
    have hP9n := sB9.dom _ _ hP9
    have hO9 := ow.m
    have hO9n := sB9.dom _ _ hO9
    have hml : (Kv.map BV.c).length = Kv.length := List.length_map _
    by_cases hlk : k < Kv.length
    · obtain ⟨b, hb⟩ : ∃ b, Kv[k]? = some b := ⟨_, List.getElem?_eq_getElem hlk⟩
      obtain ⟨hbk, hnx⟩ := hKVk k b hb
      have hbv := hKsub b (List.mem_of_getElem? hb)
      have htb := htg b.s (by unfold sL; exact List.mem_map_of_mem hbv)
      have hpm : ∀ {t : Int} {g : Nat}, t = (g : Int) → g < bv.length → ∃ pg, p[t.toNat]? = some pg ∧ (p.map (Value.int .i64))[0 + g * 1]? = some (.int .i64 pg) := by
        intro t g e hg
        have e2 : t.toNat = g := by omega
        refine ⟨p[g], ?_, ?_⟩
        · rw [e2]; exact List.getElem?_eq_getElem (by omega)
        · simp
      by_cases hk1 : b.term.kind = 1
      · have ht1 := htb b.term.goto (by show _ ∈ nextS b.term; rw [nextS_1 hk1]; simp)
        rw [sL_length] at ht1
        obtain ⟨g, hg⟩ : ∃ g : Nat, b.term.goto = (g : Int) := ⟨b.term.goto.toNat, by omega⟩
        obtain ⟨pg, hp1, hp2⟩ := hpm hg (by omega)
        have hpt : placeT p b.term = { b.term with goto := pg } := by unfold placeT; rw [if_pos hk1, hp1]; rfl
        rw [hpt] at hnx
        have keep9 : ∀ {j : Nat} {x : Blk}, B9.m j = some x → x.elem ≠ 47 → ∀ z, (B9.set lb z).m j = some x := by
          intro j x hx he z
          show (if j = lb then _ else _) = _
          rw [if_neg (ne_of_elem hx hO9 he)]
          exact hx
        have old9' : ∀ z, Old h (B9.set lb z) := fun z => (old9.off.same ((OffS.set B9 lb z).mono (T := fun j => h.n ≤ j) fun j _ e => by rw [e]; exact hlh)).old fun j hj e => by omega
        repeat (first | ((with_reducible apply RS.indexAddrS); exact rfl; exact rfl; exact rfl; exact rfl; exact rfl; omega) | ((with_reducible apply RS.load1B); exact rfl; exact rfl; exact rfl; exact hO9; exact hO9n; exact bv_cell (o := 1) hbk (by omega) (by decide) rfl) | ((with_reducible apply RS.load1B); exact rfl; exact rfl; exact rfl; exact hO9; exact hO9n; exact bv_cell (o := 7) hbk (by omega) (by decide) rfl) | ((with_reducible apply RS.load1B); exact rfl; exact rfl; exact rfl; exact hP9; exact hP9n; exact hp2) | ((with_reducible apply RS.indexAddrS); exact rfl; exact rfl; exact rfl; exact rfl; exact hg; omega) | ((with_reducible apply RS.storeB); exact rfl; exact rfl; exact rfl; exact hO9; exact hO9n; exact hlr; exact (bv_cells (o := 7) (n := 1) hbk (by omega) (by decide)).2; exact rfl; exact rfl; exact bv_write (o := 7) (b' := { b with term := { b.term with goto := pg } }) hbk (by omega) (Nat.le_of_ble_eq_true rfl) rfl) | ((with_reducible apply RS.nilCheck); exact rfl; exact rfl; exact rfl) | ((with_reducible apply RS.move); exact rfl; exact rfl; exact rfl) | ((with_reducible apply RS.assign); exact rfl; exact rfl; exact rfl) | ((with_reducible apply RS.cmpT); exact rfl; exact rfl; exact rfl; exact rfl; (simp only [cmpP]; omega)) | ((with_reducible apply RS.add1); exact rfl; exact rfl; exact rfl; exact rfl; omega) | ((with_reducible apply RS.fieldAddr); exact rfl; exact rfl; exact rfl) | ((with_reducible apply RS.nil); exact mixed; kernel_rfl) | ((with_reducible apply W.seq)) | ((with_reducible apply W.reg); kernel_rfl) | ((with_reducible apply W.block)) | ((with_reducible apply W.skip)) | ((with_reducible apply W.condT); kernel_rfl; exact rfl) | ((with_reducible apply thenK_n)) | ((with_reducible apply blockK_n)))
        repeat' ((first | (((with_reducible apply RS.splitD); exact rfl; exact rfl) <;> intro _) | ((((with_reducible apply RS.splitG); exact rfl; exact rfl) <;> intro _) <;> (fail_if_success (exact absurd ‹true = false› (by decide))) <;> (fail_if_success (exact absurd ‹false = true› (by decide)))) | (((with_reducible apply W.condD); exact rfl) <;> intro _) | ((((with_reducible apply W.cond); exact rfl) <;> intro _) <;> (fail_if_success (exact absurd ‹true = false› (by decide))) <;> (fail_if_success (exact absurd ‹false = true› (by decide))))) <;> repeat (fail))
        refine roundN_n rfl fun B' a => ⟨k + 1, ?_, ⟨by omega, (old9' _).trans a.oldH, a.up _ _ (keep9 hF9 (by simp) _), a.up _ _ (keep9 hRb9 (by simp) _), a.up _ _ (keep9 hP9 (by simp) _), by rw [hnx]; exact (ow.setT hbk _).up a.up⟩, ?_⟩
        · (repeat' (first | exact trivial | exact rfl | apply And.intro)); done
        · show Kv.length - (k + 1) < Kv.length - k
          omega
      · by_cases hk2 : b.term.kind = 2
        · have ht1 := htb b.term.goto (by show _ ∈ nextS b.term; rw [nextS_2 hk2]; simp)
          have ht2 := htb b.term.els (by show _ ∈ nextS b.term; rw [nextS_2 hk2]; simp)
          rw [sL_length] at ht1 ht2
          obtain ⟨g, hg⟩ : ∃ g : Nat, b.term.goto = (g : Int) := ⟨b.term.goto.toNat, by omega⟩
          obtain ⟨g2, hg2⟩ : ∃ g : Nat, b.term.els = (g : Int) := ⟨b.term.els.toNat, by omega⟩
          obtain ⟨pg, hp1, hp2⟩ := hpm hg (by omega)
          obtain ⟨pg2, hp3, hp4⟩ := hpm hg2 (by omega)
          have hpt : placeT p b.term = { b.term with goto := pg, els := pg2 } := by unfold placeT; rw [if_neg hk1, if_pos hk2, hp1, hp3]; rfl
          rw [hpt] at hnx
          have ow1 := ow.setT hbk { b.term with goto := pg }
          have hO9' := ow1.m
          have hb1 : ((KV k).set k { b with term := { b.term with goto := pg } })[k]? = some { b with term := { b.term with goto := pg } } := by rw [List.getElem?_set, if_pos rfl, if_pos (by rw [hKVl]; exact hlk)]
          have ow2 := ow1.setT hb1 { b.term with goto := pg, els := pg2 }
          rw [Hp.set_set] at ow2
          have keep9 : ∀ {j : Nat} {x : Blk}, B9.m j = some x → x.elem ≠ 47 → ∀ z, (B9.set lb z).m j = some x := by
            intro j x hx he z
            show (if j = lb then _ else _) = _
            rw [if_neg (ne_of_elem hx hO9 he)]
            exact hx
          have old9' : ∀ z, Old h (B9.set lb z) := fun z => (old9.off.same ((OffS.set B9 lb z).mono (T := fun j => h.n ≤ j) fun j _ e => by rw [e]; exact hlh)).old fun j hj e => by omega
          repeat (first | ((with_reducible apply RS.indexAddrS); exact rfl; exact rfl; exact rfl; exact rfl; exact rfl; omega) | ((with_reducible apply RS.load1B); exact rfl; exact rfl; exact rfl; exact hO9; exact hO9n; exact bv_cell (o := 1) hbk (by omega) (by decide) rfl) | ((with_reducible apply RS.load1B); exact rfl; exact rfl; exact rfl; exact hO9; exact hO9n; exact bv_cell (o := 7) hbk (by omega) (by decide) rfl) | ((with_reducible apply RS.load1B); exact rfl; exact rfl; exact rfl; exact hO9; exact hO9n; exact bv_cell (o := 8) hbk (by omega) (by decide) rfl) | ((with_reducible apply RS.load1B); exact rfl; exact rfl; exact rfl; exact hP9; exact hP9n; exact hp2) | ((with_reducible apply RS.load1B); exact rfl; exact rfl; exact rfl; exact hP9; exact hP9n; exact hp4) | ((with_reducible apply RS.indexAddrS); exact rfl; exact rfl; exact rfl; exact rfl; exact hg; omega) | ((with_reducible apply RS.indexAddrS); exact rfl; exact rfl; exact rfl; exact rfl; exact hg2; omega) | ((with_reducible apply RS.storeB); exact rfl; exact rfl; exact rfl; exact hO9; exact hO9n; exact hlr; exact (bv_cells (o := 7) (n := 1) hbk (by omega) (by decide)).2; exact rfl; exact rfl; exact bv_write (o := 7) (b' := { b with term := { b.term with goto := pg } }) hbk (by omega) (Nat.le_of_ble_eq_true rfl) rfl) | ((with_reducible apply RS.storeB); exact rfl; exact rfl; exact rfl; exact hO9'; exact hO9n; exact hlr; exact (bv_cells (o := 8) (n := 1) hb1 (by omega) (by decide)).2; exact rfl; exact rfl; exact bv_write (o := 8) (b' := { b with term := { b.term with goto := pg, els := pg2 } }) hb1 (by omega) (Nat.le_of_ble_eq_true rfl) rfl) | ((with_reducible apply RS.nilCheck); exact rfl; exact rfl; exact rfl) | ((with_reducible apply RS.move); exact rfl; exact rfl; exact rfl) | ((with_reducible apply RS.assign); exact rfl; exact rfl; exact rfl) | ((with_reducible apply RS.cmpT); exact rfl; exact rfl; exact rfl; exact rfl; (simp only [cmpP]; omega)) | ((with_reducible apply RS.cmpF); exact rfl; exact rfl; exact rfl; exact rfl; (simp only [cmpN]; omega)) | ((with_reducible apply RS.add1); exact rfl; exact rfl; exact rfl; exact rfl; omega) | ((with_reducible apply RS.fieldAddr); exact rfl; exact rfl; exact rfl) | ((with_reducible apply RS.nil); exact mixed; kernel_rfl) | ((with_reducible apply W.seq)) | ((with_reducible apply W.reg); kernel_rfl) | ((with_reducible apply W.block)) | ((with_reducible apply W.skip)) | ((with_reducible apply W.condT); kernel_rfl; exact rfl) | ((with_reducible apply W.condF); kernel_rfl; exact rfl) | ((with_reducible apply thenK_n)) | ((with_reducible apply blockK_n)))
          repeat' ((first | (((with_reducible apply RS.splitD); exact rfl; exact rfl) <;> intro _) | ((((with_reducible apply RS.splitG); exact rfl; exact rfl) <;> intro _) <;> (fail_if_success (exact absurd ‹true = false› (by decide))) <;> (fail_if_success (exact absurd ‹false = true› (by decide)))) | (((with_reducible apply W.condD); exact rfl) <;> intro _) | ((((with_reducible apply W.cond); exact rfl) <;> intro _) <;> (fail_if_success (exact absurd ‹true = false› (by decide))) <;> (fail_if_success (exact absurd ‹false = true› (by decide))))) <;> repeat (fail))
          rw [Hp.set_set]
          refine roundN_n rfl fun B' a => ⟨k + 1, ?_, ⟨by omega, (old9' _).trans a.oldH, a.up _ _ (keep9 hF9 (by simp) _), a.up _ _ (keep9 hRb9 (by simp) _), a.up _ _ (keep9 hP9 (by simp) _), ?_⟩, ?_⟩
          · (repeat' (first | exact trivial | exact rfl | apply And.intro)); done
          · have := ow2.up a.up
            rw [List.set_set] at this
            rw [hnx]; exact this
          · show Kv.length - (k + 1) < Kv.length - k
            omega
        · have hpt : placeT p b.term = b.term := by unfold placeT; rw [if_neg hk1, if_neg hk2]
          rw [hpt] at hnx
          have hsame : KV (k + 1) = KV k := by
            rw [hnx]
            apply List.ext_getElem?
            intro j
            rw [List.getElem?_set]
            by_cases e : k = j
            · subst e; rw [if_pos rfl, if_pos (by rw [hKVl]; exact hlk), hbk]
            · rw [if_neg e]
          repeat (first | ((with_reducible apply RS.indexAddrS); exact rfl; exact rfl; exact rfl; exact rfl; exact rfl; omega) | ((with_reducible apply RS.load1B); exact rfl; exact rfl; exact rfl; exact hO9; exact hO9n; exact bv_cell (o := 1) hbk (by omega) (by decide) rfl) | ((with_reducible apply RS.nilCheck); exact rfl; exact rfl; exact rfl) | ((with_reducible apply RS.move); exact rfl; exact rfl; exact rfl) | ((with_reducible apply RS.assign); exact rfl; exact rfl; exact rfl) | ((with_reducible apply RS.cmpT); exact rfl; exact rfl; exact rfl; exact rfl; (simp only [cmpP]; omega)) | ((with_reducible apply RS.cmpF); exact rfl; exact rfl; exact rfl; exact rfl; (simp only [cmpN]; omega)) | ((with_reducible apply RS.add1); exact rfl; exact rfl; exact rfl; exact rfl; omega) | ((with_reducible apply RS.fieldAddr); exact rfl; exact rfl; exact rfl) | ((with_reducible apply RS.nil); exact mixed; kernel_rfl) | ((with_reducible apply W.seq)) | ((with_reducible apply W.reg); kernel_rfl) | ((with_reducible apply W.block)) | ((with_reducible apply W.skip)) | ((with_reducible apply W.condT); kernel_rfl; exact rfl) | ((with_reducible apply W.condF); kernel_rfl; exact rfl) | ((with_reducible apply thenK_n)) | ((with_reducible apply blockK_n)))
          repeat' ((first | (((with_reducible apply RS.splitD); exact rfl; exact rfl) <;> intro _) | ((((with_reducible apply RS.splitG); exact rfl; exact rfl) <;> intro _) <;> (fail_if_success (exact absurd ‹true = false› (by decide))) <;> (fail_if_success (exact absurd ‹false = true› (by decide)))) | (((with_reducible apply W.condD); exact rfl) <;> intro _) | ((((with_reducible apply W.cond); exact rfl) <;> intro _) <;> (fail_if_success (exact absurd ‹true = false› (by decide))) <;> (fail_if_success (exact absurd ‹false = true› (by decide))))) <;> repeat (fail))
          refine roundN_n rfl fun B' a => ⟨k + 1, ?_, ⟨by omega, old9.trans a.oldH, a.up _ _ hF9, a.up _ _ hRb9, a.up _ _ hP9, by rw [hsame]; exact ow.up a.up⟩, ?_⟩
          · (repeat' (first | exact trivial | exact rfl | apply And.intro)); done
          · show Kv.length - (k + 1) < Kv.length - k
            omega
    · have hkk : k = Kv.length := by omega
      have hKVe : KV k = Kv.map (fun b => { b with term := placeT p b.term }) := by rw [hKV, hkk]; simp
      have hdrop : sL (KV k) = dropS (sL bv) := by
        unfold dropS
        rw [hKVe, hr0, ← sL_keptV, hKd, sL_length, ← hpe]
        simp [sL, BV.s]
      have hlen3 : (Kv.map BV.c).length = (dropS (sL bv)).length := by rw [← hdrop, sL_length, hKVl, hml]
      rw [hlen3]
      have hfr : fb ≠ rb := hne01
      have hFF : ∀ X, (B9.set fb X).m fb = some X := fun X => by show (if fb = fb then _ else _) = _; rw [if_pos rfl]
      have hRR : ∀ X, (B9.set fb X).m rb = some ⟨⟨cellsV (.agg ⟨funcC ⟨⟨#[]⟩, 0, 0, 0, [], []⟩ none 0 none 0 none 0⟩)⟩, 35⟩ := fun X => by
        show (if rb = fb then _ else B9.m rb) = _
        rw [if_neg (fun e => hfr e.symm)]; exact hRb9
      repeat (first | ((with_reducible apply RS.storeB); exact rfl; exact rfl; exact rfl; exact hF9; exact hF9n; exact hFw; exact Nat.le_of_ble_eq_true rfl; exact rfl; exact rfl; exact (show setL (funcC f A1 c1 A2 c2 (some ⟨bb, 0, none⟩) c3) (0 + 5) [.slice (some ⟨lb, 0, none⟩) (dropS (sL bv)).length (capOf 9)] = funcC { f with blocks := dropS (sL bv) } A1 c1 A2 c2 (some ⟨lb, 0, none⟩) (capOf 9) from rfl)) | ((with_reducible apply RS.loadNB); exact rfl; exact rfl; exact rfl; exact hFF _; exact hF9n; exact Nat.le_of_ble_eq_true rfl; exact rfl) | ((with_reducible apply RS.storeB); exact rfl; exact rfl; exact rfl; exact hRR _; exact hRb9n; exact hRw; exact Nat.le_of_ble_eq_true rfl; exact rfl; exact rfl; exact rfl) | ((with_reducible apply RS.move); exact rfl; exact rfl; exact rfl) | ((with_reducible apply RS.cmpF); exact rfl; exact rfl; exact rfl; exact rfl; (simp only [cmpN]; omega)) | ((with_reducible apply RS.fieldAddr); exact rfl; exact rfl; exact rfl) | ((with_reducible apply RS.nil); exact mixed; kernel_rfl) | ((with_reducible apply W.seq)) | ((with_reducible apply W.reg); kernel_rfl) | ((with_reducible apply W.exit)) | ((with_reducible apply W.ret)) | ((with_reducible apply W.condF); kernel_rfl; exact rfl) | ((with_reducible apply thenK_n)) | ((with_reducible apply thenK_e)) | ((with_reducible apply blockK_hit); exact rfl) | ((with_reducible apply roundN_e)))
      refine endsK_ret _ (.cons (.baseN (vs := funcC { f with blocks := dropS (sL bv) } A1 c1 A2 c2 (some ⟨lb, 0, none⟩) (capOf 9)) rfl (by show (if rb = rb then _ else _) = _; rw [if_pos rfl]) (Nat.le_of_ble_eq_true rfl) rfl) .nil) fun B' a => ⟨lb, KV k, rfl, ?_, hdrop, ?_, ?_⟩
      · refine ow.up35 fun j x hx he => a.up _ _ ?_
        show (if j = rb then _ else (if j = fb then _ else B9.m j)) = _
        rw [if_neg (ne_of_elem hx hRb9 he), if_neg (ne_of_elem hx hF9 he)]
        exact hx
      · refine ((old9.off.same (S := fun j => h.n ≤ j) ((OffS.set B9 fb _).mono fun j _ e => by rw [e]; exact hfb)).same ((OffS.set _ rb _).mono fun j _ e => by rw [e]; exact hrb)).same a.oldH.off |>.old fun j hj e => by omega
      · rintro j (e | ⟨x, hx, hxn, hxr⟩)
        · exact .inr (by rw [e]; exact hlh)
        · rw [hKVe] at hx
          obtain ⟨y, hy, rfl⟩ := List.mem_map.1 hx
          exact .inl (.inr ⟨y, hKsub y hy, hxn, hxr⟩)
end Go.Proofs.Ytjhloakacicdiaa
namespace Go.Proofs.Ytjhloakacicdiaa
open Go.AH
attribute [local irreducible] W RS
theorem foot_trans {h B : Hp} {bb : Nat} {bv0 bv : List BV} (ho : OffS (Foot bb bv0) h B) (hf : ∀ i, Foot bb bv i → Foot bb bv0 i ∨ h.n ≤ i) {i : Nat} (hi : i < h.n) (hx : Foot bb bv i) : Foot bb bv0 i := by
  rcases hf i hx with h1 | h1
  · exact h1
  · omega
theorem meltI_setT {h : Hp} {bb : Nat} {bv0 : List BV} {fb : Nat} {f : FuncS} {A1 : Option Addr} {c1 : Nat} {A2 : Option Addr} {c2 c3 : Nat} {bw : List BV} {B : Hp} (hI : MeltI h bb bv0 fb f A1 c1 A2 c2 c3 bw B) {i : Nat} {b : BV} (hb : bw[i]? = some b) (t : TermS) (ht : ∀ k ∈ nextS t, 0 ≤ k ∧ k < (sL bw).length) :
    MeltI h bb bv0 fb f A1 c1 A2 c2 c3 (bw.set i { b with term := t }) (B.set bb ⟨⟨((bw.set i { b with term := t }).map BV.c).flatten⟩, 47⟩) := by
  refine ⟨hI.ob.setT hb t, ⟨?_, hI.fn.rw⟩, hI.off.trans (OffS.set B bb _) fun j _ e => .inl e, fun j hj => hI.foot j ((foot_setT hb t j).1 hj), by rw [List.length_set]; exact hI.len, ?_, ?_⟩
  · show (if fb = bb then _ else B.m fb) = _
    rw [if_neg (ne_of_elem hI.fn.m hI.ob.m (by simp))]
    exact hI.fn.m
  · rw [sL_set]
    exact tgtOK_set hI.tgt ht
  · have := totB_set (c := { b with term := t }) hb
    have h2 := hI.tot
    have h3 : ({ b with term := t } : BV).ins.length = b.ins.length := rfl
    omega
theorem set_same {α : Type} {l : List α} {i : Nat} {a : α} (h : l[i]? = some a) : l.set i a = l := by
  apply List.ext_getElem?
  intro j
  rw [List.getElem?_set]
  by_cases e : i = j
  · subst e; rw [if_pos rfl, if_pos (List.getElem?_eq_some_iff.1 h).1, h]
  · rw [if_neg e]
theorem nextS_turn' {bl : List BlockS} (ht : tgtOK bl) {i : Nat} {b : BlockS} (hb : bl[i]? = some b) {t : TermS} (e : turnT bl b.term = t) : ∀ k ∈ nextS t, 0 ≤ k ∧ k < bl.length := by rw [← e]; exact nextS_turn ht (List.mem_of_getElem? hb)
set_option maxRecDepth 100000 in
theorem ways_ex (h : Hp) (bb : Nat) (bv : List BV) (f : FuncS) (A1 : Option Addr) (c1 : Nat) (A2 : Option Addr) (c2 c3 : Nat) (hfl : f.blocks = sL bv) (hpos : 0 < bv.length) (hlen : bv.length ≤ 100000)
    (hob : OwnB h bb bv) (htg : tgtOK (sL bv)) (htot : totB bv ≤ 1000000) :
    EX Try.prog 9 [.agg ⟨funcC f A1 c1 A2 c2 (some ⟨bb, 0, none⟩) c3⟩] h (fun v h' => ∃ lb kv, v = .agg ⟨funcC { f with blocks := waysS (sL bv) } A1 c1 A2 c2 (some ⟨lb, 0, none⟩) (capOf 9)⟩ ∧ OwnB h' lb kv ∧ sL kv = waysS (sL bv) ∧ OffS (Foot bb bv) h h' ∧ ∀ i, Foot lb kv i → Foot bb bv i ∨ h.n ≤ i) := by
  refine EX.intro (fn := Try.f9) (c := (Try.f9.body.getD .skip)) Try.func9 (by kernel_rfl) Try.ntmps9 (by kernel_rfl) fun π s0 => ?_
  conv => arg 2; whnf
  have hd := s0.dom
  have hfl' : f.blocks.length = bv.length := by rw [hfl, sL_length]
  ((with_reducible apply W.seq); repeat (first | ((with_reducible apply RS.alloc); exact rfl; exact rfl) | ((with_reducible apply RS.box); exact rfl; exact rfl; exact rfl) | ((with_reducible apply RS.nil); exact mixed; kernel_rfl) | ((with_reducible apply W.reg); kernel_rfl) | ((with_reducible apply thenK_n))))
  refine W.absorbX fun B0 π0 a0 => ?_
  have hF : B0.m (π 0) = some ⟨⟨funcC f A1 c1 A2 c2 (some ⟨bb, 0, none⟩) c3⟩, 35⟩ := a0.loc 0 (Nat.lt_of_lt_of_le Nat.zero_lt_one (Nat.le_succ 1))
  have hfb : h.n ≤ π 0 := a0.lo 0 (Nat.lt_of_lt_of_le Nat.zero_lt_one (Nat.le_succ 1))
  have hrb : h.n ≤ π 1 := a0.lo 1 (Nat.lt_succ_self 1)
  have hRb : B0.m (π 1) = some ⟨⟨cellsV (.agg ⟨funcC ⟨⟨#[]⟩, 0, 0, 0, [], []⟩ none 0 none 0 none 0⟩)⟩, 35⟩ := a0.loc 1 (Nat.lt_succ_self 1)
  have hfr : π 0 ≠ π 1 := fun e => absurd (a0.inj 0 1 (Nat.lt_of_lt_of_le Nat.zero_lt_one (Nat.le_succ 1)) (Nat.lt_succ_self 1) e) (by decide)
  generalize π 0 = fb at *
  generalize π 1 = rb at *
  have hRw : rwM ≤ rb := Nat.le_trans s0.rw hrb
  have hFw : rwM ≤ fb := Nat.le_trans s0.rw hfb
  have hFn := a0.dom _ _ hF
  have hRn := a0.dom _ _ hRb
  have hM0 : MeltI h bb bv fb f A1 c1 A2 c2 c3 bv B0 := ⟨hob.up a0.up, ⟨hF, hFw⟩, a0.oldH.off, fun i hi => .inl hi, rfl, htg, htot⟩
  ((with_reducible apply W.seq); repeat (fail))
  ((with_reducible apply W.seq); repeat (first | ((with_reducible apply RS.load1B); exact rfl; exact rfl; exact rfl; exact hF; exact hFn; exact rfl) | ((with_reducible apply RS.move); exact rfl; exact rfl; exact rfl) | ((with_reducible apply RS.lenSl); exact rfl; exact rfl; exact rfl) | ((with_reducible apply RS.fieldAddr); exact rfl; exact rfl; exact rfl) | ((with_reducible apply RS.nil); exact mixed; kernel_rfl) | ((with_reducible apply W.reg); kernel_rfl) | ((with_reducible apply W.block)) | ((with_reducible apply thenK_n))))
  refine W.loopN (X := Nat × List BV) (fun x => [(1, .pointer (some ⟨fb, 0, none⟩)), (2, .pointer (some ⟨rb, 0, none⟩)), (7, .int .i64 (f.blocks.length : Int)), (8, .int .i64 (x.1 : Int))])
    (fun x B => MeltI h bb bv fb f A1 c1 A2 c2 c3 x.2 B ∧ B.m rb = some ⟨⟨cellsV (.agg ⟨funcC ⟨⟨#[]⟩, 0, 0, 0, [], []⟩ none 0 none 0 none 0⟩)⟩, 35⟩ ∧ x.1 ≤ bv.length ∧ turnUp bv.length (bv.length - x.1) (sL x.2) = turnS (sL bv)) (fun x => bv.length - x.1)
    (fun B' a => ⟨(0, bv), ?_, ⟨hM0.up a0.dom a.oldH, a.up _ _ hRb, Nat.zero_le _, by show turnUp bv.length bv.length (sL bv) = _; unfold turnS; rw [sL_length]⟩⟩) ?_
  · (repeat' (first | exact trivial | exact rfl | apply And.intro)); done
  rintro ⟨i, bw⟩ B π3 sB ⟨hI, hRb, hi, hgo⟩
  dsimp only at hI hRb hi hgo ⊢
  have hdB := sB.dom
  have hF := hI.fn.m
  have hFn := hdB _ _ hF
  have hRn := hdB _ _ hRb
  have hO := hI.ob.m
  have hOn := hdB _ _ hO
  have hwl := hI.len
  have hfat := hI.fn.at hI.ob (by rw [hI.len]; exact hfl')
  have hwlen : (sL bw).length ≤ 100000 := by rw [sL_length]; omega
  have hwins : ∀ b ∈ sL bw, b.ins.length ≤ 1000000 := by
    intro b hb
    obtain ⟨x, hx, rfl⟩ := List.mem_map.1 hb
    have h1 := totB_le hx
    have h2 := hI.tot
    show (x.ins.map (·.1)).length ≤ 1000000
    rw [List.length_map]; omega
  by_cases hlt : i < bv.length
  · obtain ⟨b, hb⟩ : ∃ b, bw[i]? = some b := ⟨_, List.getElem?_eq_getElem (by omega)⟩
    obtain ⟨m, hm⟩ : ∃ m, bv.length - i = m + 1 := ⟨bv.length - i - 1, by omega⟩
    have him : bv.length - (m + 1) = i := by omega
    have hmm : bv.length - (i + 1) = m := by omega
    rw [hm, turnUp, him] at hgo
    have hta : turnAt (sL bw) i = (sL bw).set i { b.s with term := turnT (sL bw) b.term } := by unfold turnAt; rw [sL_at hb]; rfl
    rw [hta] at hgo
    have htb := hI.tgt b.s (List.mem_of_getElem? (sL_at hb))
    have hdS : ∀ {t : TermS} (j : Nat) (x : Blk), (B.set bb ⟨⟨((bw.set i { b with term := t }).map BV.c).flatten⟩, 47⟩).m j = some x → j < (B.set bb ⟨⟨((bw.set i { b with term := t }).map BV.c).flatten⟩, 47⟩).n := by
      intro t j x hx
      have hx : (if j = bb then _ else B.m j) = some x := hx
      split at hx
      · rename_i e; rw [e]; exact hOn
      · exact hdB j x hx
    by_cases hk1 : b.term.kind = 1
    · have ht1 := htb b.term.goto (by show _ ∈ nextS b.term; rw [nextS_1 hk1]; simp)
      repeat (first | ((with_reducible apply RS.load1B); exact rfl; exact rfl; exact rfl; exact hF; exact hFn; exact rfl) | ((with_reducible apply RS.indexAddrS); exact rfl; exact rfl; exact rfl; exact rfl; exact rfl; omega) | ((with_reducible apply RS.load1B); exact rfl; exact rfl; exact rfl; exact hO; exact hOn; exact bv_cell (o := 1) hb (by omega) (by decide) rfl) | ((with_reducible apply RS.load1B); exact rfl; exact rfl; exact rfl; exact hO; exact hOn; exact bv_cell (o := 7) hb (by omega) (by decide) rfl) | ((with_reducible apply RS.callR true []); exact rfl; exact rfl; exact rfl; exact fun H hH => through_tf fb f.regs _ c3 (sL bw) b.term.goto ht1 hwlen hwins hI.tgt H (hfat.up (sees_up hH hdB)); exact Nm_free (by simp)) | ((with_reducible apply RS.storeB); exact rfl; exact rfl; exact rfl; exact hO; exact hOn; exact hob.rw; exact (bv_cells (o := 7) (n := 1) hb (by omega) (by decide)).2; exact rfl; exact rfl; exact bv_write (o := 7) (b' := { b with term := { b.term with goto := throughS (sL bw) b.term.goto } }) hb (by omega) (Nat.le_of_ble_eq_true rfl) rfl) | ((with_reducible apply RS.nilCheck); exact rfl; exact rfl; exact rfl) | ((with_reducible apply RS.move); exact rfl; exact rfl; exact rfl) | ((with_reducible apply RS.assign); exact rfl; exact rfl; exact rfl) | ((with_reducible apply RS.cmpT); exact rfl; exact rfl; exact rfl; exact rfl; (simp only [cmpP]; omega)) | ((with_reducible apply RS.add1); exact rfl; exact rfl; exact rfl; exact rfl; omega) | ((with_reducible apply RS.fieldAddr); exact rfl; exact rfl; exact rfl) | ((with_reducible apply RS.nil); exact mixed; kernel_rfl) | ((with_reducible apply W.seq)) | ((with_reducible apply W.reg); kernel_rfl) | ((with_reducible apply W.block)) | ((with_reducible apply W.skip)) | ((with_reducible apply W.condT); kernel_rfl; exact rfl) | ((with_reducible apply thenK_n)) | ((with_reducible apply blockK_n)))
      repeat' ((first | (((with_reducible apply RS.splitD); exact rfl; exact rfl) <;> intro _) | ((((with_reducible apply RS.splitG); exact rfl; exact rfl) <;> intro _) <;> (fail_if_success (exact absurd ‹true = false› (by decide))) <;> (fail_if_success (exact absurd ‹false = true› (by decide)))) | (((with_reducible apply W.condD); exact rfl) <;> intro _) | ((((with_reducible apply W.cond); exact rfl) <;> intro _) <;> (fail_if_success (exact absurd ‹true = false› (by decide))) <;> (fail_if_success (exact absurd ‹false = true› (by decide))))) <;> repeat (fail))
      have hT : turnT (sL bw) b.term = { b.term with goto := throughS (sL bw) b.term.goto } := by unfold turnT; rw [if_pos hk1]
      refine roundN_n rfl fun B' a => ⟨(i + 1, bw.set i { b with term := { b.term with goto := throughS (sL bw) b.term.goto } }), ?_, ⟨(meltI_setT hI hb _ (nextS_turn' hI.tgt (sL_at hb) hT)).up hdS a.oldH, a.up _ _ ?_, by omega, by rw [hmm, sL_set]; rw [show turnT (sL bw) b.term = _ from hT] at hgo; exact hgo⟩, ?_⟩
      · (repeat' (first | exact trivial | exact rfl | apply And.intro)); done
      · show (if rb = bb then _ else B.m rb) = _
        rw [if_neg (ne_of_elem hRb hO (by simp))]; exact hRb
      · show bv.length - (i + 1) < bv.length - i
        omega
    · by_cases hk2 : b.term.kind = 2
      · have ht1 := htb b.term.goto (by show _ ∈ nextS b.term; rw [nextS_2 hk2]; simp)
        have ht2 := htb b.term.els (by show _ ∈ nextS b.term; rw [nextS_2 hk2]; simp)
        have ow1 := hI.ob.setT hb { b.term with goto := throughS (sL bw) b.term.goto }
        have hO1 := ow1.m
        have hil : i < bw.length := by omega
        have hb1 : (bw.set i { b with term := { b.term with goto := throughS (sL bw) b.term.goto } })[i]? = some { b with term := { b.term with goto := throughS (sL bw) b.term.goto } } := by rw [List.getElem?_set, if_pos rfl, if_pos hil]
        have ow2 := ow1.setT hb1 { b.term with goto := throughS (sL bw) b.term.goto, els := throughS (sL bw) b.term.els }
        have hO2 := ow2.m
        have hb2 : ((bw.set i { b with term := { b.term with goto := throughS (sL bw) b.term.goto } }).set i { b with term := { b.term with goto := throughS (sL bw) b.term.goto, els := throughS (sL bw) b.term.els } })[i]? = some { b with term := { b.term with goto := throughS (sL bw) b.term.goto, els := throughS (sL bw) b.term.els } } := by rw [List.set_set, List.getElem?_set, if_pos rfl, if_pos hil]
        repeat (first | ((with_reducible apply RS.load1B); exact rfl; exact rfl; exact rfl; exact hF; exact hFn; exact rfl) | ((with_reducible apply RS.indexAddrS); exact rfl; exact rfl; exact rfl; exact rfl; exact rfl; omega) | ((with_reducible apply RS.load1B); exact rfl; exact rfl; exact rfl; exact hO; exact hOn; exact bv_cell (o := 1) hb (by omega) (by decide) rfl) | ((with_reducible apply RS.load1B); exact rfl; exact rfl; exact rfl; exact hO; exact hOn; exact bv_cell (o := 7) hb (by omega) (by decide) rfl) | ((with_reducible apply RS.load1B); exact rfl; exact rfl; exact rfl; exact hO; exact hOn; exact bv_cell (o := 8) hb (by omega) (by decide) rfl) | ((with_reducible apply RS.callR true []); exact rfl; exact rfl; exact rfl; exact fun H hH => through_tf fb f.regs _ c3 (sL bw) b.term.goto ht1 hwlen hwins hI.tgt H (hfat.up (sees_up hH hdB)); exact Nm_free (by simp)) | ((with_reducible apply RS.callR true []); exact rfl; exact rfl; exact rfl; exact fun H hH => through_tf fb f.regs _ c3 (sL bw) b.term.els ht2 hwlen hwins hI.tgt H (hfat.up (sees_up hH hdB)); exact Nm_free (by simp)) | ((with_reducible apply RS.storeB); exact rfl; exact rfl; exact rfl; exact hO; exact hOn; exact hob.rw; exact (bv_cells (o := 7) (n := 1) hb (by omega) (by decide)).2; exact rfl; exact rfl; exact bv_write (o := 7) (b' := { b with term := { b.term with goto := throughS (sL bw) b.term.goto } }) hb (by omega) (Nat.le_of_ble_eq_true rfl) rfl) | ((with_reducible apply RS.storeB); exact rfl; exact rfl; exact rfl; exact hO1; exact hOn; exact hob.rw; exact (bv_cells (o := 8) (n := 1) hb1 (by omega) (by decide)).2; exact rfl; exact rfl; exact bv_write (o := 8) (b' := { b with term := { b.term with goto := throughS (sL bw) b.term.goto, els := throughS (sL bw) b.term.els } }) hb1 (by omega) (Nat.le_of_ble_eq_true rfl) rfl) | ((with_reducible apply RS.load1B); exact rfl; exact rfl; exact rfl; exact hO2; exact hOn; exact bv_cell (o := 7) hb2 (by omega) (by decide) rfl) | ((with_reducible apply RS.load1B); exact rfl; exact rfl; exact rfl; exact hO2; exact hOn; exact bv_cell (o := 8) hb2 (by omega) (by decide) rfl) | ((with_reducible apply RS.nilCheck); exact rfl; exact rfl; exact rfl) | ((with_reducible apply RS.move); exact rfl; exact rfl; exact rfl) | ((with_reducible apply RS.assign); exact rfl; exact rfl; exact rfl) | ((with_reducible apply RS.cmpT); exact rfl; exact rfl; exact rfl; exact rfl; (simp only [cmpP]; omega)) | ((with_reducible apply RS.cmpF); exact rfl; exact rfl; exact rfl; exact rfl; (simp only [cmpN]; omega)) | ((with_reducible apply RS.bin); exact rfl; exact rfl; exact rfl; exact rfl; exact rfl) | ((with_reducible apply RS.fieldAddr); exact rfl; exact rfl; exact rfl) | ((with_reducible apply RS.nil); exact mixed; kernel_rfl) | ((with_reducible apply W.seq)) | ((with_reducible apply W.reg); kernel_rfl) | ((with_reducible apply W.block)) | ((with_reducible apply W.skip)) | ((with_reducible apply W.condT); kernel_rfl; exact rfl) | ((with_reducible apply W.condF); kernel_rfl; exact rfl) | ((with_reducible apply thenK_n)))
        repeat' ((first | (((with_reducible apply RS.splitD); exact rfl; exact rfl) <;> intro _) | ((((with_reducible apply RS.splitG); exact rfl; exact rfl) <;> intro _) <;> (fail_if_success (exact absurd ‹true = false› (by decide))) <;> (fail_if_success (exact absurd ‹false = true› (by decide)))) | (((with_reducible apply W.condD); exact rfl) <;> intro _) | ((((with_reducible apply W.cond); exact rfl) <;> intro _) <;> (fail_if_success (exact absurd ‹true = false› (by decide))) <;> (fail_if_success (exact absurd ‹false = true› (by decide))))) <;> repeat (first | ((with_reducible apply RS.load1B); exact rfl; exact rfl; exact rfl; exact hO2; exact hOn; exact bv_cell (o := 7) hb2 (by omega) (by decide) rfl) | ((with_reducible apply RS.storeB); exact rfl; exact rfl; exact rfl; exact hO2; exact hOn; exact hob.rw; exact (bv_term hb2 (by omega)).2; exact rfl; exact rfl; exact bv_write (o := 1) (b' := { b with term := jumpT (throughS (sL bw) b.term.goto) }) hb2 (by omega) (Nat.le_of_ble_eq_true rfl) rfl) | ((with_reducible apply RS.nilCheck); exact rfl; exact rfl; exact rfl) | ((with_reducible apply RS.move); exact rfl; exact rfl; exact rfl) | ((with_reducible apply RS.add1); exact rfl; exact rfl; exact rfl; exact rfl; omega) | ((with_reducible apply RS.fieldAddr); exact rfl; exact rfl; exact rfl) | ((with_reducible apply RS.build); exact rfl; exact rfl; exact rfl; exact rfl) | ((with_reducible apply RS.nil); exact mixed; kernel_rfl) | ((with_reducible apply W.reg); kernel_rfl) | ((with_reducible apply W.skip)) | ((with_reducible apply thenK_n)) | ((with_reducible apply blockK_n))))
        · have hq : throughS (sL bw) b.term.goto = throughS (sL bw) b.term.els := ‹throughS (sL bw) b.term.goto = throughS (sL bw) b.term.els›
          have hT : turnT (sL bw) b.term = jumpT (throughS (sL bw) b.term.goto) := by unfold turnT; rw [if_neg hk1, if_pos hk2, if_pos hq]
          rw [Hp.set_set, Hp.set_set, List.set_set, List.set_set]
          refine roundN_n rfl fun B' a => ⟨(i + 1, bw.set i { b with term := jumpT (throughS (sL bw) b.term.goto) }), ?_, ⟨(meltI_setT hI hb _ (nextS_turn' hI.tgt (sL_at hb) hT)).up hdS a.oldH, a.up _ _ ?_, by omega, by rw [hmm, sL_set]; rw [show turnT (sL bw) b.term = _ from hT] at hgo; exact hgo⟩, ?_⟩
          · (repeat' (first | exact trivial | exact rfl | apply And.intro)); done
          · show (if rb = bb then _ else B.m rb) = _
            rw [if_neg (ne_of_elem hRb hO (by simp))]; exact hRb
          · show bv.length - (i + 1) < bv.length - i
            omega
        · have hq : ¬ throughS (sL bw) b.term.goto = throughS (sL bw) b.term.els := ‹¬ throughS (sL bw) b.term.goto = throughS (sL bw) b.term.els›
          have hT : turnT (sL bw) b.term = { b.term with goto := throughS (sL bw) b.term.goto, els := throughS (sL bw) b.term.els } := by unfold turnT; rw [if_neg hk1, if_pos hk2, if_neg hq]
          rw [Hp.set_set, List.set_set]
          refine roundN_n rfl fun B' a => ⟨(i + 1, bw.set i { b with term := { b.term with goto := throughS (sL bw) b.term.goto, els := throughS (sL bw) b.term.els } }), ?_, ⟨(meltI_setT hI hb _ (nextS_turn' hI.tgt (sL_at hb) hT)).up hdS a.oldH, a.up _ _ ?_, by omega, by rw [hmm, sL_set]; rw [show turnT (sL bw) b.term = _ from hT] at hgo; exact hgo⟩, ?_⟩
          · (repeat' (first | exact trivial | exact rfl | apply And.intro)); done
          · show (if rb = bb then _ else B.m rb) = _
            rw [if_neg (ne_of_elem hRb hO (by simp))]; exact hRb
          · show bv.length - (i + 1) < bv.length - i
            omega
      · repeat (first | ((with_reducible apply RS.load1B); exact rfl; exact rfl; exact rfl; exact hF; exact hFn; exact rfl) | ((with_reducible apply RS.indexAddrS); exact rfl; exact rfl; exact rfl; exact rfl; exact rfl; omega) | ((with_reducible apply RS.load1B); exact rfl; exact rfl; exact rfl; exact hO; exact hOn; exact bv_cell (o := 1) hb (by omega) (by decide) rfl) | ((with_reducible apply RS.nilCheck); exact rfl; exact rfl; exact rfl) | ((with_reducible apply RS.move); exact rfl; exact rfl; exact rfl) | ((with_reducible apply RS.assign); exact rfl; exact rfl; exact rfl) | ((with_reducible apply RS.cmpT); exact rfl; exact rfl; exact rfl; exact rfl; (simp only [cmpP]; omega)) | ((with_reducible apply RS.cmpF); exact rfl; exact rfl; exact rfl; exact rfl; (simp only [cmpN]; omega)) | ((with_reducible apply RS.add1); exact rfl; exact rfl; exact rfl; exact rfl; omega) | ((with_reducible apply RS.fieldAddr); exact rfl; exact rfl; exact rfl) | ((with_reducible apply RS.nil); exact mixed; kernel_rfl) | ((with_reducible apply W.seq)) | ((with_reducible apply W.reg); kernel_rfl) | ((with_reducible apply W.block)) | ((with_reducible apply W.skip)) | ((with_reducible apply W.condT); kernel_rfl; exact rfl) | ((with_reducible apply W.condF); kernel_rfl; exact rfl) | ((with_reducible apply thenK_n)) | ((with_reducible apply blockK_n)))
        repeat' ((first | (((with_reducible apply RS.splitD); exact rfl; exact rfl) <;> intro _) | ((((with_reducible apply RS.splitG); exact rfl; exact rfl) <;> intro _) <;> (fail_if_success (exact absurd ‹true = false› (by decide))) <;> (fail_if_success (exact absurd ‹false = true› (by decide)))) | (((with_reducible apply W.condD); exact rfl) <;> intro _) | ((((with_reducible apply W.cond); exact rfl) <;> intro _) <;> (fail_if_success (exact absurd ‹true = false› (by decide))) <;> (fail_if_success (exact absurd ‹false = true› (by decide))))) <;> repeat (fail))
        have hT : turnT (sL bw) b.term = b.term := by unfold turnT; rw [if_neg hk1, if_neg hk2]
        rw [hT] at hgo
        have hgo : turnUp bv.length m ((sL bw).set i b.s) = turnS (sL bv) := hgo
        rw [set_same (sL_at hb)] at hgo
        refine roundN_n rfl fun B' a => ⟨(i + 1, bw), ?_, ⟨hI.up hdB a.oldH, a.up _ _ hRb, by omega, by rw [hmm]; exact hgo⟩, ?_⟩
        · (repeat' (first | exact trivial | exact rfl | apply And.intro)); done
        · show bv.length - (i + 1) < bv.length - i
          omega
  · have hii : i = bv.length := by omega
    subst hii
    rw [Nat.sub_self, turnUp] at hgo
    have hwpos : 0 < bw.length := by omega
    have hwl2 : bw.length ≤ 100000 := by omega
    have hflw : f.blocks.length = bw.length := by omega
    have hrB : ∀ {x : BV}, x ∈ bw → x.ins ≠ [] → x.r ≠ rb := fun hx hn => hI.ob.row_ne hx hn hRb (by simp)
    ((with_reducible apply W.seq); repeat (first | ((with_reducible apply RS.cmpF); exact rfl; exact rfl; exact rfl; exact rfl; (simp only [cmpN]; omega)) | ((with_reducible apply RS.nil); exact mixed; kernel_rfl) | ((with_reducible apply W.reg); kernel_rfl) | ((with_reducible apply thenK_n))))
    ((with_reducible apply W.seq); repeat (first | ((with_reducible apply W.exit)) | ((with_reducible apply W.condF); kernel_rfl; exact rfl) | ((with_reducible apply thenK_n)) | ((with_reducible apply thenK_e)) | ((with_reducible apply blockK_hit); exact rfl) | ((with_reducible apply roundN_e))))
    ((with_reducible apply W.seq); repeat (first | ((with_reducible apply RS.callEx); exact rfl; exact rfl; exact rfl; intro B1 hB1; refine ⟨_, join_ex B1 bb bw fb f A1 c1 A2 c2 c3 hflw hwpos hwl2 (hI.ob.up hB1.up) ⟨hB1.up _ _ hF, hFw⟩ hI.tgt hI.tot, ?_⟩; rintro v H1 π1 ⟨bm, hM, hmelt⟩ sH1 hle1) | ((with_reducible apply RS.nil); exact mixed; kernel_rfl) | ((with_reducible apply W.reg); kernel_rfl) | ((with_reducible apply thenK_n))))
    have hmf : f.blocks.length = (sL bm).length := by rw [sL_length, hM.len]; omega
    have hfc : funcC f A1 c1 A2 c2 (some ⟨bb, 0, none⟩) c3 = funcC { f with blocks := sL bm } A1 c1 A2 c2 (some ⟨bb, 0, none⟩) c3 := by unfold funcC; rw [hmf]
    have hF6 := hM.fn.m
    rw [hfc] at hF6
    have hF6n := sH1.dom _ _ hF6
    have hmpos : 0 < bm.length := by rw [hM.len]; omega
    have hmlen : bm.length ≤ 100000 := by rw [hM.len]; omega
    have hR6 : H1.m rb = some ⟨⟨cellsV (.agg ⟨funcC ⟨⟨#[]⟩, 0, 0, 0, [], []⟩ none 0 none 0 none 0⟩)⟩, 35⟩ := by
      rw [hM.off.2 rb (hB1.dom _ _ (hB1.up _ _ hRb)) (fun e => by
        rcases e with e | ⟨x, hx, hxn, hxr⟩
        · exact ne_of_elem hRb hO (by simp) e
        · exact hrB hx hxn hxr)]
      exact hB1.up _ _ hRb
    repeat (first | ((with_reducible apply RS.loadNB); exact rfl; exact rfl; exact rfl; exact hF6; exact hF6n; exact Nat.le_of_ble_eq_true rfl; exact (show takeV 0 6 (funcC { f with blocks := sL bm } A1 c1 A2 c2 (some ⟨bb, 0, none⟩) c3) = funcC { f with blocks := sL bm } A1 c1 A2 c2 (some ⟨bb, 0, none⟩) c3 from rfl)) | ((with_reducible apply RS.callEx); exact rfl; exact rfl; exact rfl; intro B2 hB2; refine ⟨_, drop_ex B2 bb bm { f with blocks := sL bm } A1 c1 A2 c2 c3 rfl hmpos hmlen (hM.ob.up hB2.up) hM.tgt, ?_⟩; rintro v H2 π2 ⟨lb, kv, rfl, hkO, hkS, hkOld, hkF⟩ sH2 hle2; have hR7 := hkOld.up hB2.dom _ _ (hB2.up _ _ hR6); have hR7n := sH2.dom _ _ hR7) | ((with_reducible apply RS.storeB); exact rfl; exact rfl; exact rfl; exact hR7; exact hR7n; exact hRw; exact Nat.le_of_ble_eq_true rfl; exact rfl; exact rfl; exact (show setL (cellsV (.agg ⟨funcC ⟨⟨#[]⟩, 0, 0, 0, [], []⟩ none 0 none 0 none 0⟩)) 0 (funcC { f with blocks := dropS (sL bm) } A1 c1 A2 c2 (some ⟨lb, 0, none⟩) (capOf 9)) = funcC { f with blocks := dropS (sL bm) } A1 c1 A2 c2 (some ⟨lb, 0, none⟩) (capOf 9) from rfl)) | ((with_reducible apply RS.nil); exact mixed; kernel_rfl) | ((with_reducible apply W.seq)) | ((with_reducible apply W.reg); kernel_rfl) | ((with_reducible apply W.ret)) | ((with_reducible apply thenK_n)))
    have hws : dropS (sL bm) = waysS (sL bv) := by unfold waysS; rw [hmelt, hgo]
    have footM : ∀ j, Foot bb bm j → Foot bb bv j ∨ h.n ≤ j := by
      intro j hj
      rcases hM.foot j hj with h1 | h1
      · exact hI.foot j h1
      · exact .inr (Nat.le_trans hI.off.1 (Nat.le_trans hB1.le h1))
    refine endsK_ret _ (.cons (.baseN (vs := funcC { f with blocks := dropS (sL bm) } A1 c1 A2 c2 (some ⟨lb, 0, none⟩) (capOf 9)) rfl (by show (if rb = rb then _ else _) = _; rw [if_pos rfl]) (Nat.le_of_ble_eq_true rfl) rfl) .nil) fun B' a => ⟨lb, kv, by rw [← hws]; rfl, ?_, by rw [hkS, hws], ?_, ?_⟩
    · refine hkO.up35 fun j x hx he => a.up _ _ ?_
      show (if j = rb then _ else H2.m j) = _
      rw [if_neg (ne_of_elem hx hR7 he)]
      exact hx
    · have o1 : OffS (Foot bb bv) h H1 := (hI.off.same hB1.oldH.off).trans hM.off fun j hj hT => foot_trans hI.off hI.foot hj hT
      have o2 : OffS (Foot bb bv) h H2 := (o1.same hB2.oldH.off).same hkOld.off
      refine (o2.trans (OffS.set H2 rb _) fun j hj e => ?_).same a.oldH.off
      subst e
      omega
    · intro j hj
      rcases hkF j hj with h1 | h1
      · exact footM j h1
      · exact .inr (Nat.le_trans hI.off.1 (Nat.le_trans hB1.le (Nat.le_trans hM.off.1 (Nat.le_trans hB2.le h1))))
end Go.Proofs.Ytjhloakacicdiaa
