/-
  Numbers written out in base 10 and 16 are read as what they are.
-/
import Derived.KernelRfl
import Derived.Test.YtghpaggkbpdmkaaDoorL2
import Derived.Test.YtghpaggkbpdmkaaDoorS1
set_option linter.unusedVariables false
set_option linter.unusedSimpArgs false
namespace Go.AH
variable {P : Program}
section
variable {ops : Array Oper} {draw : Bool} {rs : List Rk} {l : List Oper} {fl : List (Nat × Value)} {nt : Nat} {h : SH} {K : Fr → SH → Prop} {d : Tmp} {ty : TypeId} {pos : String} {af : Array Edge} {gd : Option (Nat × Bool)}
theorem RS.remU10 {t yt : TypeId} {x : Operand} {a : Nat} (hw : wantB ops ⟨some d, .binOp .rem t x (.const (.int .u64 10)) yt, ty, pos, af, gd⟩ ⟨fl, nt⟩ = some true) (hd : Nat.blt d nt = true)
    (hx : Fr.ev ⟨fl, nt⟩ x = some (.int .u64 (a : Int)))
    (hk : RS P ops draw (recP h.k false [] (some []) :: rs) l ⟨(d, .int .u64 ((a % 10 : Nat) : Int)) :: fl, nt⟩ h K) : RS P ops draw rs (⟨some d, .binOp .rem t x (.const (.int .u64 10)) yt, ty, pos, af, gd⟩ :: l) ⟨fl, nt⟩ h K := by
  refine RS.rem hw hd hx (b := 10) rfl (by decide) ?_
  have e : (a : Int).tmod 10 = ((a % 10 : Nat) : Int) := by rw [Int.tmod_eq_emod_of_nonneg (by omega)]; omega
  rw [e]; exact hk
theorem RS.quoU10 {t yt : TypeId} {x : Operand} {a : Nat} (hw : wantB ops ⟨some d, .binOp .quo t x (.const (.int .u64 10)) yt, ty, pos, af, gd⟩ ⟨fl, nt⟩ = some true) (hd : Nat.blt d nt = true)
    (hx : Fr.ev ⟨fl, nt⟩ x = some (.int .u64 (a : Int))) (ha : a ≤ 18446744073709551615)
    (hk : RS P ops draw (recP h.k false [] (some []) :: rs) l ⟨(d, .int .u64 ((a / 10 : Nat) : Int)) :: fl, nt⟩ h K) : RS P ops draw rs (⟨some d, .binOp .quo t x (.const (.int .u64 10)) yt, ty, pos, af, gd⟩ :: l) ⟨fl, nt⟩ h K :=
  RS.quoU (b := 10) hw hd hx rfl ⟨by decide, ha⟩ hk
theorem RS.addU48 {t yt : TypeId} {y : Operand} {a : Nat} (hw : wantB ops ⟨some d, .binOp .add t (.const (.int .u64 48)) y yt, ty, pos, af, gd⟩ ⟨fl, nt⟩ = some true) (hd : Nat.blt d nt = true)
    (hy : Fr.ev ⟨fl, nt⟩ y = some (.int .u64 (a : Int))) (ha : a ≤ 1000)
    (hk : RS P ops draw (recP h.k false [] (some []) :: rs) l ⟨(d, .int .u64 ((48 + a : Nat) : Int)) :: fl, nt⟩ h K) : RS P ops draw rs (⟨some d, .binOp .add t (.const (.int .u64 48)) y yt, ty, pos, af, gd⟩ :: l) ⟨fl, nt⟩ h K :=
  RS.addU (a := 48) hw hd rfl hy (by omega) hk
theorem RS.shrU4 {t yt : TypeId} {x : Operand} {a : Nat} (hw : wantB ops ⟨some d, .binOp .shr t x (.const (.int .u64 4)) yt, ty, pos, af, gd⟩ ⟨fl, nt⟩ = some true) (hd : Nat.blt d nt = true)
    (hx : Fr.ev ⟨fl, nt⟩ x = some (.int .u64 (a : Int)))
    (hk : RS P ops draw (recP h.k false [] (some []) :: rs) l ⟨(d, .int .u64 ((a / 16 : Nat) : Int)) :: fl, nt⟩ h K) : RS P ops draw rs (⟨some d, .binOp .shr t x (.const (.int .u64 4)) yt, ty, pos, af, gd⟩ :: l) ⟨fl, nt⟩ h K := by
  refine RS.shr hw hd hx (k' := .u64) (b := 4) rfl (by decide) ?_
  have e : (a : Int).fdiv (2 ^ (min (4 : Int).toNat IntKind.u64.bits)) = ((a / 16 : Nat) : Int) := by
    have h1 : (2 : Int) ^ (min (4 : Int).toNat IntKind.u64.bits) = 16 := by decide
    rw [h1, Int.fdiv_eq_ediv_of_nonneg _ (by decide)]; omega
  rw [e]; exact hk
theorem RS.moveI {k : IntKind} {n : Int} (hw : wantB ops ⟨some d, .move (.const (.int k n)), ty, pos, af, gd⟩ ⟨fl, nt⟩ = some true) (hd : Nat.blt d nt = true)
    (hk : RS P ops draw (recP h.k false [] (some []) :: rs) l ⟨(d, .int k n) :: fl, nt⟩ h K) : RS P ops draw rs (⟨some d, .move (.const (.int k n)), ty, pos, af, gd⟩ :: l) ⟨fl, nt⟩ h K :=
  RS.still (nv := some []) hw hd (fun a g H => by rw [← g.ev (show Fr.ev ⟨fl, nt⟩ (.const (.int k n)) = some (.int k n) from rfl)]; exact TX.move rfl) (Nm_free (by simp)) hk
theorem RS.boolNeq {t yt : TypeId} {x y : Operand} {a b : Bool} [hu : TyU P t .bool] (hw : wantB ops ⟨some d, .binOp .neq t x y yt, ty, pos, af, gd⟩ ⟨fl, nt⟩ = some true) (hd : Nat.blt d nt = true)
    (hx : Fr.ev ⟨fl, nt⟩ x = some (.bool a)) (hy : Fr.ev ⟨fl, nt⟩ y = some (.bool b))
    (hk : RS P ops draw (recP h.k false [] (some []) :: rs) l ⟨(d, .bool (!(a == b))) :: fl, nt⟩ h K) : RS P ops draw rs (⟨some d, .binOp .neq t x y yt, ty, pos, af, gd⟩ :: l) ⟨fl, nt⟩ h K :=
  RS.boolEq (q := false) hw hd hx hy rfl hk
end
theorem and_u64 (a m : Nat) (hm : m < 64) (ha : a ≤ 18446744073709551615) : IntKind.u64.wrap (BitVec.ofInt 64 (a : Int) &&& BitVec.ofInt 64 ((2 ^ m - 1 : Nat) : Int)).toNat = ((a % 2 ^ m : Nat) : Int) := by
  have h2 : 2 ^ m - 1 < 2 ^ 64 := by
    have : 2 ^ m < 2 ^ 64 := Nat.pow_lt_pow_right (by omega) hm
    omega
  rw [BitVec.toNat_and, BitVec.ofInt_natCast, BitVec.ofInt_natCast, BitVec.toNat_ofNat, BitVec.toNat_ofNat, Nat.mod_eq_of_lt (show a < 2 ^ 64 by omega), Nat.mod_eq_of_lt h2, Nat.and_two_pow_sub_one_eq_mod]
  have h3 : a % 2 ^ m ≤ a := Nat.mod_le _ _
  exact wrapU64 (by omega) (by omega)
theorem and_low (x : Int) : ∃ r : Nat, r < 4 ∧ binI .and .i64 x 3 = some (.int .i64 (r : Int)) ∧ binI .and .i64 x 1 = some (.int .i64 ((r % 2 : Nat) : Int)) ∧ binI .and .i64 x 2 = some (.int .i64 ((r / 2 * 2 : Nat) : Int)) := by
  obtain ⟨u, hu⟩ : ∃ u, u = (BitVec.ofInt 64 x).toNat := ⟨_, rfl⟩
  have key : ∀ c : Nat, c < 4 → IntKind.i64.wrap (((BitVec.ofInt 64 x) &&& BitVec.ofInt 64 (c : Int)).toNat : Int) = ((u % 4 &&& c : Nat) : Int) := by
    intro c hc
    have h1 : ((BitVec.ofInt 64 x) &&& BitVec.ofInt 64 (c : Int)).toNat = u % 4 &&& c := by
      rw [BitVec.toNat_and, ← hu, BitVec.ofInt_natCast, BitVec.toNat_ofNat, Nat.mod_eq_of_lt (by omega)]
      have h3 : 3 &&& c = c := by match c, hc with | 0, _ => rfl | 1, _ => rfl | 2, _ => rfl | 3, _ => rfl
      have h4 : u &&& 3 = u % 4 := Nat.and_two_pow_sub_one_eq_mod u 2
      rw [← h4, Nat.and_assoc, h3]
    rw [h1]
    have h5 : u % 4 &&& c ≤ c := Nat.and_le_right
    exact wrap64_fit (by omega) (by omega)
  have hr : u % 4 < 4 := Nat.mod_lt _ (by omega)
  refine ⟨u % 4, hr, ?_, ?_, ?_⟩
  · have := key 3 (by omega)
    refine Eq.trans (congrArg (fun z => some (Value.int .i64 z)) this) ?_
    generalize u % 4 = q at hr
    match q, hr with | 0, _ => rfl | 1, _ => rfl | 2, _ => rfl | 3, _ => rfl
  · have := key 1 (by omega)
    refine Eq.trans (congrArg (fun z => some (Value.int .i64 z)) this) ?_
    generalize u % 4 = q at hr
    match q, hr with | 0, _ => rfl | 1, _ => rfl | 2, _ => rfl | 3, _ => rfl
  · have := key 2 (by omega)
    refine Eq.trans (congrArg (fun z => some (Value.int .i64 z)) this) ?_
    generalize u % 4 = q at hr
    match q, hr with | 0, _ => rfl | 1, _ => rfl | 2, _ => rfl | 3, _ => rfl
end Go.AH
namespace Go.Proofs.YtghpaggkbpdmkaaDoor
open Go
def digs (b : Nat) : Nat → Nat → List Nat → List Nat
  | 0, _, acc => acc
  | f + 1, m, acc => if m / b = 0 then (m % b) :: acc else digs b f (m / b) ((m % b) :: acc)
def valD (b : Nat) (v : Nat) (l : List Nat) : Nat := l.foldl (fun v d => v * b + d) v
theorem half_lt {b m f : Nat} (hb : 2 ≤ b) (hm : m < 2 ^ (f + 1)) : m / b < 2 ^ f := by
  rw [Nat.pow_succ] at hm
  have h1 : m / b ≤ m / 2 := Nat.div_le_div_left hb (by omega)
  omega
theorem digs_val {b : Nat} (hb : 2 ≤ b) : ∀ f m acc, m < 2 ^ f → 1 ≤ f → valD b 0 (digs b f m acc) = valD b m acc := by
  intro f
  induction f with
  | zero => intro m acc _ h; omega
  | succ f ih =>
    intro m acc hm _
    rw [digs]
    have hdm := Nat.div_add_mod m b
    split
    · rename_i h0
      rw [h0, Nat.mul_zero, Nat.zero_add] at hdm
      show valD b (0 * b + m % b) acc = _
      rw [Nat.zero_mul, Nat.zero_add, hdm]
    · rename_i h0
      have h1 := half_lt hb hm
      have hf : 1 ≤ f := by
        rcases Nat.eq_zero_or_pos f with h | h
        · subst h
          rw [Nat.pow_zero] at h1
          exact absurd (Nat.lt_one_iff.1 h1) h0
        · exact h
      rw [ih _ _ h1 hf]
      show valD b (m / b * b + m % b) acc = _
      rw [Nat.mul_comm, hdm]
theorem digs_lt {b : Nat} (hb : 2 ≤ b) : ∀ f m acc, (∀ d ∈ acc, d < b) → ∀ d ∈ digs b f m acc, d < b := by
  intro f
  induction f with
  | zero => intro m acc h; exact h
  | succ f ih =>
    intro m acc h
    have hm : m % b < b := Nat.mod_lt _ (by omega)
    rw [digs]
    split
    · intro d hd
      rcases List.mem_cons.1 hd with rfl | hd
      · exact hm
      · exact h d hd
    · refine ih _ _ fun d hd => ?_
      rcases List.mem_cons.1 hd with rfl | hd
      · exact hm
      · exact h d hd
theorem digs_ne {b : Nat} : ∀ f m acc, 1 ≤ f ∨ acc ≠ [] → digs b f m acc ≠ [] := by
  intro f
  induction f with
  | zero => intro m acc h; rw [digs]; rcases h with h | h; (exact absurd h (by decide)); exact h
  | succ f ih =>
    intro m acc _
    rw [digs]
    split
    · simp
    · exact ih _ _ (.inr (by simp))
theorem digs_len {b : Nat} : ∀ f m acc, (digs b f m acc).length ≤ acc.length + f := by
  intro f
  induction f with
  | zero => intro m acc; simp [digs]
  | succ f ih =>
    intro m acc
    rw [digs]
    split
    · simp only [List.length_cons]; omega
    · have := ih (m / b) ((m % b) :: acc); simp only [List.length_cons] at this; omega
theorem valD_le (b : Nat) (hb : 1 ≤ b) : ∀ l v, v ≤ valD b v l := by
  intro l
  induction l with
  | nil => intro v; exact Nat.le_refl _
  | cons d l ih =>
    intro v
    have := ih (v * b + d)
    have h2 : v ≤ v * b := Nat.le_mul_of_pos_right _ hb
    show v ≤ valD b (v * b + d) l
    omega
theorem at_cons {s : ByteArray} {p : Nat} {c : UInt8} {r : List UInt8} (h : tl s p = c :: r) : p < s.size ∧ chr s p = (c.toNat : Int) ∧ tl s (p + 1) = r := by
  have hp : p < s.size := by
    by_cases h0 : p < s.size
    · exact h0
    · rw [tl_nil h0] at h; cases h
  rw [tl_cons hp] at h
  injection h with h1 h2
  exact ⟨hp, by rw [chr_lt hp, h1], h2⟩
theorem at_nil {s : ByteArray} {p : Nat} (h : tl s p = []) : chr s p = -1 ∧ s.size ≤ p := by
  have hp : ¬ p < s.size := by
    intro h0
    rw [tl_cons h0] at h; cases h
  exact ⟨chr_ge hp, by omega⟩
def hexB (d : Nat) : UInt8 := if d < 10 then UInt8.ofNat (48 + d) else UInt8.ofNat (87 + d)
theorem hexB_ok : (List.range 16).all (fun d => wordyI ((hexB d).toNat : Int) && Nat.beq (valN ((hexB d).toNat : Int)) d) = true := by kernel_rfl
theorem hexB_at {d : Nat} (h : d < 16) : wordyI ((hexB d).toNat : Int) = true ∧ valN ((hexB d).toNat : Int) = d := by
  have := List.all_eq_true.1 hexB_ok d (List.mem_range.2 h)
  simp only [Bool.and_eq_true] at this
  exact ⟨this.1, Nat.eq_of_beq_eq_true this.2⟩
def stops (b : Nat) (l : List UInt8) : Prop := match l with
  | [] => True
  | c :: _ => ¬ (wordyI (c.toNat : Int) = true ∧ valN (c.toNat : Int) < b)
theorem numL_digs {s : ByteArray} {b : Nat} (hb : 2 ≤ b) (hb16 : b ≤ 16) {rest : List UInt8} (hst : stops b rest) : ∀ (ds : List Nat) (e v : Nat), (∀ d ∈ ds, d < b) → tl s e = ds.map hexB ++ rest → valD b v ds ≤ 18446744073709551615 →
    numL s b (s.size - e) e v = some (valD b v ds, e + ds.length) := by
  intro ds
  induction ds with
  | nil =>
    intro e v _ ht _
    simp only [List.map_nil, List.nil_append] at ht
    by_cases he : e < s.size
    · rw [numL_step he]
      cases rest with
      | nil => rw [tl_cons he] at ht; cases ht
      | cons c r =>
        obtain ⟨_, hc, _⟩ := at_cons ht
        rw [hc, if_neg hst]; rfl
    · rw [numL_end he]; rfl
  | cons d ds ih =>
    intro e v hd ht hv
    simp only [List.map_cons, List.cons_append] at ht
    obtain ⟨he, hc, ht'⟩ := at_cons ht
    have hdb := hd d (by simp)
    obtain ⟨h1, h2⟩ := hexB_at (show d < 16 by omega)
    have hv' : valD b (v * b + d) ds ≤ 18446744073709551615 := hv
    have hle := valD_le b (by omega) ds (v * b + d)
    rw [numL_step he, hc, if_pos ⟨h1, by rw [h2]; exact hdb⟩, h2]
    rw [if_neg (by
      rw [Nat.not_lt, Nat.le_div_iff_mul_le (by omega)]
      omega)]
    rw [ih (e + 1) (v * b + d) (fun x hx => hd x (by simp [hx])) ht' hv']
    simp only [Option.some.injEq, Prod.mk.injEq, List.length_cons]
    exact ⟨rfl, by omega⟩
def tailL (r : Nat) : List UInt8 := match r with
  | 0 => []
  | 1 => [117]
  | 2 => [108]
  | _ => [117, 108]
theorem numTail_tail {s : ByteArray} {p v e r : Nat} (hr : r < 4) {rest : List UInt8} (hrest : match rest with | [] => True | c :: _ => c = 59) (ht : tl s e = tailL r ++ rest) :
    numTail s p v e = (⟨3, s.extract p (e + (tailL r).length), p, v, r % 2 == 1, r / 2 == 1⟩, true) := by
  have hend : ∀ q, tl s q = rest → wordyI (chr s q) = false ∧ (chr s q == 117) = false ∧ (chr s q == 108) = false := by
    intro q hq
    cases rest with
    | nil => rw [(at_nil hq).1]; exact ⟨by decide, by decide, by decide⟩
    | cons c l =>
      simp only at hrest
      subst hrest
      rw [(at_cons hq).2.1]; exact ⟨by decide, by decide, by decide⟩
  match r, hr with
  | 0, _ =>
    obtain ⟨h1, h2, h3⟩ := hend e ht
    simp [numTail, h1, h2, h3, tailL]
  | 1, _ =>
    obtain ⟨_, hc, ht1⟩ := at_cons (show tl s e = 117 :: rest from ht)
    obtain ⟨h1, h2, h3⟩ := hend (e + 1) ht1
    simp [numTail, hc, h1, h3, tailL]
  | 2, _ =>
    obtain ⟨_, hc, ht1⟩ := at_cons (show tl s e = 108 :: rest from ht)
    obtain ⟨h1, h2, h3⟩ := hend (e + 1) ht1
    simp [numTail, hc, h1, tailL]
  | 3, _ =>
    obtain ⟨_, hc, ht1⟩ := at_cons (show tl s e = 117 :: 108 :: rest from ht)
    obtain ⟨_, hc2, ht2⟩ := at_cons ht1
    obtain ⟨h1, h2, h3⟩ := hend (e + 2) ht2
    simp [numTail, hc, hc2, h1, tailL]
end Go.Proofs.YtghpaggkbpdmkaaDoor
namespace Go.Proofs.YtghpaggkbpdmkaaDoor
open Go
theorem tl_app {s : ByteArray} : ∀ (a b : List UInt8) (p : Nat), tl s p = a ++ b → tl s (p + a.length) = b := by
  intro a
  induction a with
  | nil => intro b p h; exact h
  | cons c a ih =>
    intro b p h
    have h1 := (at_cons (show tl s p = c :: (a ++ b) from h)).2.2
    have := ih b (p + 1) h1
    rw [show p + (c :: a).length = p + 1 + a.length by simp; omega]; exact this
theorem blank_here {s : ByteArray} {p : Nat} (hp : p < s.size) (h1 : blankI (chr s p) = false) (h2 : chr s p ≠ 47) : blankS s p = (p, true) := by
  unfold blankS
  rw [show s.size - p = (s.size - (p + 1)) + 1 by omega, blankF2, if_neg (by rw [h1]; decide), if_neg (fun h => h2 h.1), if_neg (fun h => h2 h.1)]
theorem dec_ok : (List.range 10).all (fun d => !(blankI ((hexB d).toNat : Int)) && !(letterI ((hexB d).toNat : Int)) && digitI ((hexB d).toNat : Int) && !(Nat.beq (hexB d).toNat 47) && !(Nat.beq (hexB d).toNat 120)) = true := by kernel_rfl
theorem dec_at {d : Nat} (h : d < 10) : blankI ((hexB d).toNat : Int) = false ∧ letterI ((hexB d).toNat : Int) = false ∧ digitI ((hexB d).toNat : Int) = true ∧ (hexB d).toNat ≠ 47 ∧ (hexB d).toNat ≠ 120 := by
  have := List.all_eq_true.1 dec_ok d (List.mem_range.2 h)
  simp only [Bool.and_eq_true, Bool.not_eq_true'] at this
  obtain ⟨⟨⟨⟨a, b⟩, c⟩, e⟩, f⟩ := this
  refine ⟨a, b, c, fun h => ?_, fun h => ?_⟩
  · rw [h] at e; cases e
  · rw [h] at f; cases f
theorem sign_semi (r : List UInt8) : signList.find? (fun x => Lib.hasPrefix (59 :: r) x) = some [59] := by kernel_rfl
theorem one_semi {s : ByteArray} {p : Nat} {r : List UInt8} (h : tl s p = 59 :: r) : oneS s p = (⟨4, ⟨⟨[59]⟩⟩, p, 0, false, false⟩, true) := by
  obtain ⟨_, hc, _⟩ := at_cons h
  unfold oneS
  rw [hc, if_neg (by decide), if_neg (by decide), if_neg (by decide)]
  have : signList.find? (signAt s p) = some [59] := by
    unfold signAt
    rw [h]; exact sign_semi r
  rw [this]
def numS (n r : Nat) : ByteArray := ⟨⟨(digs 10 64 n []).map hexB ++ (tailL r ++ (59 :: 48 :: 120 :: ((digs 16 64 n []).map hexB ++ tailL r)))⟩⟩
set_option maxHeartbeats 4000000 in
theorem num_scan {n r : Nat} (hn : n ≤ 18446744073709551615) (hr : r < 4) : ∃ a b c d : TokS, scanS (numS n r) = .ok [⟨3, a.text, a.pos, n, r % 2 == 1, r / 2 == 1⟩, b, ⟨3, c.text, c.pos, n, r % 2 == 1, r / 2 == 1⟩, d] := by
  have hn2 : n < 2 ^ 64 := by omega
  obtain ⟨D, hD⟩ : ∃ D, D = digs 10 64 n [] := ⟨_, rfl⟩
  obtain ⟨X, hX⟩ : ∃ X, X = digs 16 64 n [] := ⟨_, rfl⟩
  have hDv : valD 10 0 D = n := by rw [hD, digs_val (by omega) 64 n [] hn2 (by omega)]; rfl
  have hXv : valD 16 0 X = n := by rw [hX, digs_val (by omega) 64 n [] hn2 (by omega)]; rfl
  have hDl : ∀ d ∈ D, d < 10 := by rw [hD]; exact digs_lt (by omega) 64 n [] (by simp)
  have hXl : ∀ d ∈ X, d < 16 := by rw [hX]; exact digs_lt (by omega) 64 n [] (by simp)
  have hDn : D ≠ [] := by rw [hD]; exact digs_ne 64 n [] (.inl (by omega))
  have hXn : X ≠ [] := by rw [hX]; exact digs_ne 64 n [] (.inl (by omega))
  have hDz : D.length ≤ 64 := by rw [hD]; have := digs_len (b := 10) 64 n []; simpa using this
  have hXz : X.length ≤ 64 := by rw [hX]; have := digs_len (b := 16) 64 n []; simpa using this
  have hT : (tailL r).length ≤ 2 := by match r, hr with | 0, _ => decide | 1, _ => decide | 2, _ => decide | 3, _ => decide
  have h0 : tl (numS n r) 0 = D.map hexB ++ (tailL r ++ (59 :: 48 :: 120 :: (X.map hexB ++ tailL r))) := by
    rw [tl_eq, hD, hX]; rfl
  generalize hs : numS n r = s at h0
  have hsz : s.size = D.length + (tailL r).length + 3 + X.length + (tailL r).length := by
    have : (tl s 0).length = s.size := by rw [tl_eq]; simp
    rw [← this, h0]; simp; omega
  have hDp : 0 < D.length := List.length_pos_iff.2 hDn
  have hXp : 0 < X.length := List.length_pos_iff.2 hXn
  have hb0 : blankS s 0 = (0, true) ∧ letterI (chr s 0) = false ∧ digitI (chr s 0) = true ∧ numHex s 0 = false := by
    cases D with
    | nil => exact absurd rfl hDn
    | cons d D' =>
      obtain ⟨hp, hc, ht⟩ := at_cons (show tl s 0 = hexB d :: (D'.map hexB ++ (tailL r ++ (59 :: 48 :: 120 :: (X.map hexB ++ tailL r)))) from h0)
      obtain ⟨q1, q2, q3, q4, q5⟩ := dec_at (hDl d (by simp))
      refine ⟨blank_here hp (by rw [hc]; exact q1) (by rw [hc]; omega), by rw [hc]; exact q2, by rw [hc]; exact q3, ?_⟩
      have hne : chr s 1 ≠ 120 := by
        cases D' with
        | cons d1 D1 =>
          obtain ⟨_, hc1, _⟩ := at_cons (show tl s (0 + 1) = hexB d1 :: _ from ht)
          have := dec_at (hDl d1 (by simp))
          rw [show (1 : Nat) = 0 + 1 from rfl, hc1]; omega
        | nil =>
          simp only [List.map_nil, List.nil_append] at ht
          match r, hr with
          | 0, _ => rw [show (1 : Nat) = 0 + 1 from rfl, (at_cons (show tl s (0 + 1) = 59 :: _ from ht)).2.1]; decide
          | 1, _ => rw [show (1 : Nat) = 0 + 1 from rfl, (at_cons (show tl s (0 + 1) = 117 :: _ from ht)).2.1]; decide
          | 2, _ => rw [show (1 : Nat) = 0 + 1 from rfl, (at_cons (show tl s (0 + 1) = 108 :: _ from ht)).2.1]; decide
          | 3, _ => rw [show (1 : Nat) = 0 + 1 from rfl, (at_cons (show tl s (0 + 1) = 117 :: _ from ht)).2.1]; decide
      unfold numHex
      rw [show (chr s (0 + 1) == 120) = false by simpa using hne, Bool.and_false]
  obtain ⟨b1, b2, b3, b4⟩ := hb0
  have t1 := tl_app _ _ 0 h0
  rw [Nat.zero_add, List.length_map] at t1
  have hst1 : stops 10 (tailL r ++ (59 :: 48 :: 120 :: (X.map hexB ++ tailL r))) := by
    match r, hr with
    | 0, _ => show ¬ (wordyI ((59 : UInt8).toNat : Int) = true ∧ _); decide
    | 1, _ => show ¬ (wordyI ((117 : UInt8).toNat : Int) = true ∧ valN ((117 : UInt8).toNat : Int) < 10); decide
    | 2, _ => show ¬ (wordyI ((108 : UInt8).toNat : Int) = true ∧ valN ((108 : UInt8).toNat : Int) < 10); decide
    | 3, _ => show ¬ (wordyI ((117 : UInt8).toNat : Int) = true ∧ valN ((117 : UInt8).toNat : Int) < 10); decide
  have o1 : oneS s 0 = (⟨3, s.extract 0 (D.length + (tailL r).length), 0, n, r % 2 == 1, r / 2 == 1⟩, true) := by
    unfold oneS
    rw [if_neg (by rw [b2]; decide), if_pos b3]
    unfold numberS
    rw [if_neg (by rw [b4]; decide)]
    unfold numberR
    rw [numL_digs (by omega) (by omega) hst1 D 0 0 hDl h0 (by rw [hDv]; exact hn), hDv]
    simp only [Nat.zero_add]
    rw [if_neg (by omega), numTail_tail hr (rest := 59 :: 48 :: 120 :: (X.map hexB ++ tailL r)) rfl t1]
  have z1 : (s.extract 0 (D.length + (tailL r).length)).size = D.length + (tailL r).length := by simp; omega
  have t2 := tl_app _ _ D.length t1
  obtain ⟨p1, hp1⟩ : ∃ p1, p1 = D.length + (tailL r).length := ⟨_, rfl⟩
  rw [← hp1] at t2 z1 o1
  obtain ⟨l2, c2, t3⟩ := at_cons t2
  have bl2 : blankS s p1 = (p1, true) := blank_here l2 (by rw [c2]; decide) (by rw [c2]; decide)
  have o2 := one_semi t2
  obtain ⟨l3, c3, t4⟩ := at_cons t3
  obtain ⟨l4, c4, t5⟩ := at_cons t4
  have bl3 : blankS s (p1 + 1) = (p1 + 1, true) := blank_here l3 (by rw [c3]; decide) (by rw [c3]; decide)
  have hst2 : stops 16 (tailL r) := by
    match r, hr with
    | 0, _ => exact trivial
    | 1, _ => show ¬ (wordyI ((117 : UInt8).toNat : Int) = true ∧ valN ((117 : UInt8).toNat : Int) < 16); decide
    | 2, _ => show ¬ (wordyI ((108 : UInt8).toNat : Int) = true ∧ valN ((108 : UInt8).toNat : Int) < 16); decide
    | 3, _ => show ¬ (wordyI ((117 : UInt8).toNat : Int) = true ∧ valN ((117 : UInt8).toNat : Int) < 16); decide
  rw [show p1 + 1 + 1 + 1 = p1 + 1 + 2 from rfl] at t5
  have t6 := tl_app _ _ (p1 + 1 + 2) t5
  rw [List.length_map] at t6
  have o3 : oneS s (p1 + 1) = (⟨3, s.extract (p1 + 1) (p1 + 1 + 2 + X.length + (tailL r).length), p1 + 1, n, r % 2 == 1, r / 2 == 1⟩, true) := by
    unfold oneS
    rw [c3, if_neg (by decide), if_pos (by decide)]
    unfold numberS
    have hh : numHex s (p1 + 1) = true := by unfold numHex; rw [c3, c4]; decide
    rw [if_pos hh]
    unfold numberR
    rw [numL_digs (by omega) (by omega) hst2 X (p1 + 1 + 2) 0 hXl t5 (by rw [hXv]; exact hn), hXv]
    simp only
    rw [if_neg (by omega), numTail_tail hr (rest := []) trivial (by rw [List.append_nil]; exact t6)]
  have z3 : (s.extract (p1 + 1) (p1 + 1 + 2 + X.length + (tailL r).length)).size = 2 + X.length + (tailL r).length := by simp; omega
  have hend : p1 + 1 + (2 + X.length + (tailL r).length) = s.size := by omega
  have bl4 : blankS s s.size = (s.size, true) := by unfold blankS; exact blankF2_end (by omega)
  refine ⟨⟨3, s.extract 0 p1, 0, n, false, false⟩, ⟨4, ⟨⟨[59]⟩⟩, p1, 0, false, false⟩, ⟨3, s.extract (p1 + 1) (p1 + 1 + 2 + X.length + (tailL r).length), p1 + 1, n, false, false⟩, endTok s.size, ?_⟩
  unfold scanS
  rw [if_neg (by omega), show s.size + 1 = (s.size - 3) + 1 + 1 + 1 + 1 by omega]
  rw [scanF, b1]
  simp only
  rw [if_neg (by omega), o1]
  simp only
  rw [z1, Nat.zero_add, scanF, bl2]
  simp only
  rw [if_neg (by omega), o2]
  simp only
  rw [show (⟨⟨[59]⟩⟩ : ByteArray).size = 1 from rfl, scanF, bl3]
  simp only
  rw [if_neg (by omega), o3]
  simp only
  rw [z3, hend, scanF, bl4]
  simp only [if_true]
  rfl
end Go.Proofs.YtghpaggkbpdmkaaDoor
