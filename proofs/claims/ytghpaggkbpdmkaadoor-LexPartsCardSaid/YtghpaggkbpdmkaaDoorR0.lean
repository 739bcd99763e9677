/-
  Plain laws of the reference lexer.
-/
import Derived.KernelRfl
import Derived.Test.YtghpaggkbpdmkaaDoorL2
set_option linter.unusedVariables false
set_option linter.unusedSimpArgs false
namespace Go.Proofs.YtghpaggkbpdmkaaDoor
open Go
def wordL : List (List UInt8) := [[98, 114, 101, 97, 107], [99, 97, 115, 101], [99, 104, 97, 114], [99, 111, 110, 116, 105, 110, 117, 101], [100, 101, 102, 97, 117, 108, 116], [100, 111], [101, 108, 115, 101], [102, 111, 114], [105, 102], [105, 110, 116], [108, 111, 110, 103], [112, 117, 98, 108, 105, 99], [114, 101, 116, 117, 114, 110], [115, 101, 99, 114, 101, 116], [115, 104, 111, 114, 116], [115, 105, 103, 110, 101, 100], [115, 105, 122, 101, 111, 102], [115, 116, 114, 117, 99, 116], [115, 119, 105, 116, 99, 104], [117, 110, 115, 105, 103, 110, 101, 100], [118, 111, 105, 100], [119, 104, 105, 108, 101]]
def wordV : List Value := wordL.map fun l => .string ⟨⟨l⟩⟩
def wordOK (w : List UInt8) (c : Nat) : Bool :=
  if wordL.contains (w ++ [(97 + c).toUInt8]) then true else match scanS ⟨⟨w ++ [32] ++ (w ++ [(97 + c).toUInt8])⟩⟩ with
    | .ok [a, b, _] => Nat.beq a.kind 2 && Nat.beq b.kind 1 && (b.text.data.toList == w ++ [(97 + c).toUInt8])
    | _ => false
theorem words_all : wordL.all (fun w => (List.range 26).all (wordOK w)) = true := by kernel_rfl
theorem word_len : wordL.all (fun w => Nat.ble w.length 8) = true := by kernel_rfl
end Go.Proofs.YtghpaggkbpdmkaaDoor
namespace Go.Proofs.YtghpaggkbpdmkaaDoor
def joinW : List (List UInt8) → List UInt8
  | [] => [32]
  | w :: l => 32 :: (w ++ joinW l)
theorem joinW_head (l : List (List UInt8)) : ∃ r, joinW l = 32 :: r := by
  cases l with
  | nil => exact ⟨[], rfl⟩
  | cons w l => exact ⟨_, rfl⟩
theorem pre_word : ∀ (t w r : List UInt8), (∀ c ∈ t, c ≠ 32) → (∀ c ∈ w, c ≠ 32) → (t ++ [32]).isPrefixOf (w ++ 32 :: r) = (w == t) := by
  intro t
  induction t with
  | nil =>
    intro w r _ hw
    cases w with
    | nil => rfl
    | cons c w => 
      have : (32 : UInt8) ≠ c := fun e => hw c (by simp) e.symm
      simp [List.isPrefixOf, this]
  | cons b t ih =>
    intro w r ht hw
    cases w with
    | nil =>
      have : b ≠ 32 := ht b (by simp)
      simp [List.isPrefixOf, this]
    | cons c w =>
      have h1 := ih w r (fun x hx => ht x (by simp [hx])) (fun x hx => hw x (by simp [hx]))
      show (b == c && (t ++ [32]).isPrefixOf (w ++ 32 :: r)) = _
      rw [h1]
      show _ = (c == b && w == t)
      congr 1
      rw [Bool.eq_iff_iff]; simp only [beq_iff_eq]; exact eq_comm
theorem contains_cons (c : UInt8) (l p : List UInt8) : Lib.contains (c :: l) p = (p.isPrefixOf (c :: l) || Lib.contains l p) := by
  unfold Lib.contains
  rw [Lib.index]
  have := Lib.index_ge l p
  cases hq : p.isPrefixOf (c :: l) with
  | true => simp
  | false =>
    simp only [Bool.false_eq_true, if_false, Bool.false_or]
    by_cases h : Lib.index l p = -1
    · rw [h]; rfl
    · have e : (Lib.index l p == -1) = false := by simpa using h
      rw [e]
      simp only [Bool.false_eq_true, if_false]
      rw [Bool.eq_iff_iff]; simp only [decide_eq_true_eq]; omega
theorem contains_skip : ∀ (w r p : List UInt8), (∀ c ∈ w, c ≠ 32) → Lib.contains (w ++ r) (32 :: p) = Lib.contains r (32 :: p) := by
  intro w
  induction w with
  | nil => intro r p _; rfl
  | cons c w ih =>
    intro r p h
    rw [List.cons_append, contains_cons, ih r p fun x hx => h x (by simp [hx])]
    have : (32 : UInt8) ≠ c := fun e => h c (by simp) e.symm
    simp [List.isPrefixOf, this]
theorem contains_join : ∀ (l : List (List UInt8)) (t : List UInt8), (∀ w ∈ l, ∀ c ∈ w, c ≠ 32) → (∀ c ∈ t, c ≠ 32) → Lib.contains (joinW l) (32 :: (t ++ [32])) = l.contains t := by
  intro l
  induction l with
  | nil =>
    intro t _ _
    show Lib.contains [32] _ = _
    rw [contains_cons]
    cases t with
    | nil => rfl
    | cons b t => rfl
  | cons w l ih =>
    intro t hl ht
    have hw := hl w (by simp)
    obtain ⟨r, hr⟩ := joinW_head l
    rw [joinW, contains_cons, contains_skip w _ _ hw, ih t (fun x hx => hl x (by simp [hx])) ht, List.contains_cons]
    congr 1
    show (32 == 32 && (t ++ [32]).isPrefixOf (w ++ joinW l)) = _
    rw [hr, pre_word t w r ht hw]
    show (true && (w == t)) = (t == w)
    rw [Bool.true_and, Bool.eq_iff_iff]; simp only [beq_iff_eq]
    exact eq_comm
theorem wordsB_join : wordsB.data.toList = joinW wordL := by kernel_rfl
theorem wordL_free : ∀ w ∈ wordL, ∀ c ∈ w, c ≠ 32 := by decide +kernel
theorem isWord_list {t : ByteArray} (ht : ∀ c ∈ t.data.toList, c ≠ 32) : isWord t = wordL.contains t.data.toList := by
  unfold isWord
  rw [wordsB_join, ← contains_join wordL _ wordL_free ht]
  congr 1
theorem word_free {s : ByteArray} : ∀ n p, s.size - p = n → ∀ c ∈ (s.extract p (wordE s p)).data.toList, c ≠ 32 := by
  intro n
  induction n with
  | zero =>
    intro p h c hc
    have e := wordE_end (s := s) (p := p) (by rw [chr_ge (by omega)]; decide)
    rw [e] at hc
    simp [Lib.extract_data] at hc
  | succ n ih =>
    intro p h c hc
    by_cases hw : wordyI (chr s p) = true
    · have h1 := (wordE_le s _ (p + 1) rfl).1
      have h2 := (wordE_le s _ (p + 1) rfl).2 (by omega)
      rw [wordE_step hw] at hc
      have hp : p < s.size := by omega
      have e : (s.extract p (wordE s (p + 1))).data.toList = s[p] :: (s.extract (p + 1) (wordE s (p + 1))).data.toList := by
        have := @tl_take s p (wordE s (p + 1) - p)
        rw [show p + (wordE s (p + 1) - p) = wordE s (p + 1) by omega] at this
        rw [this, tl_cons hp, show wordE s (p + 1) - p = (wordE s (p + 1) - (p + 1)) + 1 by omega, List.take_succ_cons]
        have := @tl_take s (p + 1) (wordE s (p + 1) - (p + 1))
        rw [show p + 1 + (wordE s (p + 1) - (p + 1)) = wordE s (p + 1) by omega] at this
        rw [this]
      rw [e, List.mem_cons] at hc
      rcases hc with rfl | hc
      · rintro e1
        have : chr s p = 32 := by rw [chr_lt hp, e1]; rfl
        rw [this] at hw
        exact absurd hw (by decide)
      · exact ih (p + 1) (by omega) c hc
    · rw [wordE_end hw] at hc
      simp [Lib.extract_data] at hc
def bestS (s : ByteArray) (p i : Nat) : List UInt8 := ((signList.take i).find? (signAt s p)).getD []
theorem sign_desc : ∀ i : Fin 45, ∀ j : Fin 45, i.val ≤ j.val → (signList[j.val]?.getD []).length ≤ (signList[i.val]?.getD []).length := by decide +kernel
theorem bestS_zero (s : ByteArray) (p : Nat) : bestS s p 0 = [] := rfl
theorem bestS_succ {s : ByteArray} {p i : Nat} {x : List UInt8} (hi : i < 45) (hx : signList[i]? = some x) : bestS s p (i + 1) = if (bestS s p i).length < x.length ∧ signAt s p x = true then x else bestS s p i := by
  unfold bestS
  rw [List.take_add_one, hx, Option.toList_some, List.find?_append]
  cases hf : (signList.take i).find? (signAt s p) with
  | none =>
    have hx1 := sign_ne x (List.mem_of_getElem? hx)
    simp only [Option.none_or, Option.getD_none, List.length_nil]
    cases hs : signAt s p x with
    | true => rw [if_pos ⟨by omega, rfl⟩]; simp [hs]
    | false => rw [if_neg (by simp)]; simp [hs]
  | some y =>
    simp only [Option.some_or, Option.getD_some]
    have hy := List.mem_of_find?_eq_some hf
    obtain ⟨j, hj⟩ := List.mem_iff_getElem?.1 hy
    have hji : j < i := by
      have := (List.getElem?_eq_some_iff.1 hj).1
      simp at this; omega
    rw [List.getElem?_take, if_pos hji] at hj
    have := sign_desc ⟨j, by omega⟩ ⟨i, hi⟩ (by simp only; omega)
    simp only [hx, hj, Option.getD_some] at this
    rw [if_neg (by omega)]
theorem bestS_all (s : ByteArray) (p : Nat) : bestS s p 45 = (signList.find? (signAt s p)).getD [] := rfl
theorem blankS_fuel (s : ByteArray) : ∀ n m p, s.size ≤ p + n → s.size ≤ p + m → blankF2 s n p = blankF2 s m p := by
  intro n
  induction n with
  | zero => intro m p h1 h2; rw [blankF2_end (by omega), blankF2_end (by omega)]
  | succ n ih =>
    intro m p h1 h2
    by_cases hp : p < s.size
    · obtain ⟨m, rfl⟩ : ∃ k, m = k + 1 := ⟨m - 1, by omega⟩
      rw [blankF2, blankF2]
      by_cases hb : blankI (chr s p) = true
      · rw [if_pos hb, if_pos hb]; exact ih m (p + 1) (by omega) (by omega)
      · rw [if_neg hb, if_neg hb]
        by_cases hc : chr s p = 47 ∧ chr s (p + 1) = 47
        · rw [if_pos hc, if_pos hc]
          have := nl_gt hc.1
          exact ih m _ (by omega) (by omega)
        · rw [if_neg hc, if_neg hc]
          by_cases hd : chr s p = 47 ∧ chr s (p + 1) = 42
          · rw [if_pos hd, if_pos hd]
            cases he : endC s (p + 2) with
            | none => rfl
            | some i =>
              have := endC_ok s _ _ i rfl he
              exact ih m _ (by omega) (by omega)
          · rw [if_neg hd, if_neg hd]
    · rw [blankF2_end hp, blankF2_end hp]
theorem blankS_step {s : ByteArray} {p : Nat} (hp : p < s.size) : blankS s p = if blankI (chr s p) = true then blankS s (p + 1)
    else if chr s p = 47 ∧ chr s (p + 1) = 47 then blankS s (nl s p)
    else if chr s p = 47 ∧ chr s (p + 1) = 42 then (match endC s (p + 2) with | none => (p, false) | some i => blankS s (i + 2))
    else (p, true) := by
  unfold blankS
  obtain ⟨n, hn⟩ : ∃ n, s.size - p = n + 1 := ⟨s.size - p - 1, by omega⟩
  rw [hn, blankF2]
  by_cases hb : blankI (chr s p) = true
  · rw [if_pos hb, if_pos hb]; exact blankS_fuel s _ _ _ (by omega) (by omega)
  · rw [if_neg hb, if_neg hb]
    by_cases hc : chr s p = 47 ∧ chr s (p + 1) = 47
    · rw [if_pos hc, if_pos hc]
      have := nl_gt hc.1
      exact blankS_fuel s _ _ _ (by omega) (by omega)
    · rw [if_neg hc, if_neg hc]
      by_cases hd : chr s p = 47 ∧ chr s (p + 1) = 42
      · rw [if_pos hd, if_pos hd]
        cases he : endC s (p + 2) with
        | none => rfl
        | some i =>
          have := endC_ok s _ _ i rfl he
          exact blankS_fuel s _ _ _ (by omega) (by omega)
      · rw [if_neg hd, if_neg hd]
theorem blankS_stop {s : ByteArray} {p : Nat} (h1 : ¬ blankI (chr s p) = true) (h2 : ¬ (chr s p = 47 ∧ chr s (p + 1) = 47)) (h3 : ¬ (chr s p = 47 ∧ chr s (p + 1) = 42)) : blankS s p = (p, true) := by
  by_cases hp : p < s.size
  · rw [blankS_step hp, if_neg h1, if_neg h2, if_neg h3]
  · exact blankF2_end hp
theorem chr_part {s : ByteArray} {p q i : Nat} (hq : q ≤ s.size) : chr (s.extract p q) i = if p + i < q then chr s (p + i) else -1 := by
  by_cases h : i < (s.extract p q).size
  · have h2 : p + i < q := by simp at h; omega
    rw [if_pos h2, chr_lt h, chr_lt (show p + i < s.size by omega)]
    congr 2
    exact ByteArray.getElem_extract h
  · have h2 : ¬ p + i < q := by simp at h; omega
    rw [if_neg h2, chr_ge h]
theorem nl_part {s : ByteArray} {p q : Nat} (hq : q ≤ s.size) : ∀ n i, q - (p + i) = n → p + i ≤ q → nl s (p + i) ≤ q → p + nl (s.extract p q) i = nl s (p + i) := by
  intro n
  induction n with
  | zero =>
    intro i h h1 h2
    have := (nl_ge s _ (p + i) rfl).1
    rw [nl_end (s := s.extract p q) (by simp; omega)]; omega
  | succ n ih =>
    intro i h h1 h2
    have hc := @chr_part s p q i hq
    rw [if_pos (by omega)] at hc
    by_cases h10 : chr s (p + i) = 10
    · rw [nl_at h10, nl_at (by rw [hc, h10])]
    · rw [nl_step (by omega) h10] at h2 ⊢
      rw [nl_step (s := s.extract p q) (by simp; omega) (by rw [hc]; exact h10)]
      exact ih (i + 1) (by omega) (by omega) h2
theorem endC_part {s : ByteArray} {p q : Nat} (hq : q ≤ s.size) : ∀ n i e, q - (p + i) = n → endC s (p + i) = some e → e + 2 ≤ q → ∃ e', endC (s.extract p q) i = some e' ∧ p + e' = e := by
  intro n
  induction n with
  | zero =>
    intro i e h h1 h2
    have := endC_ok s _ _ e rfl h1
    omega
  | succ n ih =>
    intro i e h h1 h2
    have ha := @chr_part s p q i hq
    have hb := @chr_part s p q (i + 1) hq
    have hge := (endC_ok s _ _ e rfl h1).1
    rw [if_pos (by omega)] at ha
    by_cases hc : chr s (p + i) = 42 ∧ chr s (p + i + 1) = 47
    · rw [endC_at hc] at h1
      injection h1 with h1
      rw [if_pos (by omega)] at hb
      exact ⟨i, endC_at ⟨by rw [ha]; exact hc.1, by rw [hb]; exact hc.2⟩, h1⟩
    · rw [endC_step hc] at h1
      have hge := (endC_ok s _ _ e rfl h1).1
      have hn : ¬ (chr (s.extract p q) i = 42 ∧ chr (s.extract p q) (i + 1) = 47) := by
        rw [ha, hb, if_pos (by omega)]; exact hc
      rw [endC_step hn]
      exact ih (i + 1) e (by omega) h1 h2
theorem blank_part {s : ByteArray} {p q : Nat} (hq : q ≤ s.size) : ∀ n i, q - (p + i) = n → p + i ≤ q → blankS s (p + i) = (q, true) → blankS (s.extract p q) i = (q - p, true) := by
  intro n
  induction n using Nat.strongRecOn with
  | ind n ih =>
    intro i hn hle hb
    by_cases hlt : p + i < q
    · have hsz : i < (s.extract p q).size := by simp; omega
      have ha := @chr_part s p q i hq
      have hb1 := @chr_part s p q (i + 1) hq
      rw [if_pos (by omega)] at ha
      rw [blankS_step hsz, ha]
      rw [blankS_step (show p + i < s.size by omega)] at hb
      by_cases c1 : blankI (chr s (p + i)) = true
      · rw [if_pos c1] at hb ⊢
        exact ih _ (by omega) (i + 1) rfl (by omega) hb
      · rw [if_neg c1] at hb ⊢
        by_cases c2 : chr s (p + i) = 47 ∧ chr s (p + i + 1) = 47
        · rw [if_pos c2] at hb
          have hgt := nl_gt c2.1
          have hle2 := blankS_le s ((nl_ge s _ (p + i) rfl).2.1 (by omega))
          rw [hb] at hle2
          simp only at hle2
          have h2 : p + (i + 1) < q := by
            have h0 := (nl_step (s := s) (p := p + i) (by omega) (by rw [c2.1]; decide))
            have h1 : chr s (p + i + 1) ≠ 10 := by rw [c2.2]; decide
            have h2 := chr_in (s := s) (i := p + i + 1) (by rw [c2.2]; decide)
            have h3 := nl_step h2 h1
            have h4 := (nl_ge s _ (p + i + 1 + 1) rfl).1
            omega
          rw [if_pos (by omega)] at hb1
          rw [hb1, show p + (i + 1) = p + i + 1 from rfl, if_pos c2]
          have hnl := nl_part hq _ i rfl (by omega) hle2.1
          have := ih (q - nl s (p + i)) (by omega) (nl (s.extract p q) i) (by rw [hnl]) (by rw [hnl]; exact hle2.1) (by rw [hnl]; exact hb)
          exact this
        · rw [if_neg c2] at hb
          by_cases c3 : chr s (p + i) = 47 ∧ chr s (p + i + 1) = 42
          · rw [if_pos c3] at hb
            cases he : endC s (p + i + 2) with
            | none =>
              rw [he] at hb
              simp only [Prod.mk.injEq] at hb
              exact absurd hb.2 (by decide)
            | some e =>
              rw [he] at hb
              simp only at hb
              have hok := endC_ok s _ _ e rfl he
              have hle2 := blankS_le s (p := e + 2) (by omega)
              rw [hb] at hle2
              simp only at hle2
              obtain ⟨e', h1, h2⟩ := endC_part hq _ (i + 2) e rfl he hle2.1
              rw [if_pos (by omega)] at hb1
              rw [hb1, show p + (i + 1) = p + i + 1 from rfl, if_neg c2, if_pos c3, h1]
              simp only
              exact ih (q - (e + 2)) (by omega) (e' + 2) (by omega) (by omega) (by rw [show p + (e' + 2) = e + 2 by omega]; exact hb)
          · rw [if_neg c3] at hb
            simp only [Prod.mk.injEq] at hb
            omega
    · have he : p + i = q := by omega
      have : ¬ i < (s.extract p q).size := by simp; omega
      show blankF2 _ _ _ = _
      rw [blankF2_end this]
      congr 1; omega
theorem scan_blank {s : ByteArray} {p q : Nat} (hq : q ≤ s.size) (hpq : p ≤ q) (hs : s.size ≤ 16384) (hb : blankS s p = (q, true)) : scanS (s.extract p q) = .ok [endTok (q - p)] := by
  have hsz : (s.extract p q).size = q - p := by simp; omega
  unfold scanS
  rw [if_neg (by omega), scanF, blank_part hq _ 0 rfl (by omega) hb]
  simp only
  rw [if_pos hsz.symm]; rfl
end Go.Proofs.YtghpaggkbpdmkaaDoor
