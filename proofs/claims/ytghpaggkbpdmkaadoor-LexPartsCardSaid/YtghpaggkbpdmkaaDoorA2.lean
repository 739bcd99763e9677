/-
  Runs reckoned in the kernel, and that the reckoning is right.
-/
import Derived.Test.YtghpaggkbpdmkaaDoorA1
set_option linter.unusedVariables false
set_option linter.unusedSimpArgs false
namespace Go.AH
inductive T (α : Type) where
  | leaf
  | node (l : T α) (v : Option α) (r : T α)
noncomputable def T.get {α : Type} (t : T α) : Nat → Option α :=
  T.rec (fun _ => none) (fun _ v _ gl gr i => bif Nat.beq i 0 then v else bif Nat.beq (Nat.mod i 2) 1 then gl (Nat.div i 2) else gr (Nat.pred (Nat.div i 2))) t
noncomputable def T.one {α : Type} (a : Option α) (f : Nat) : Nat → T α :=
  Nat.rec (fun _ => .leaf) (fun _ g i => bif Nat.beq i 0 then .node .leaf a .leaf else bif Nat.beq (Nat.mod i 2) 1 then .node (g (Nat.div i 2)) none .leaf else .node .leaf none (g (Nat.pred (Nat.div i 2)))) f
noncomputable def T.put {α : Type} (t : T α) (i : Nat) (a : Option α) : T α :=
  T.rec (motive := fun _ => Nat → T α) (fun i => T.one a 64 i) (fun l v r sl sr i => bif Nat.beq i 0 then .node l a r else bif Nat.beq (Nat.mod i 2) 1 then .node (sl (Nat.div i 2)) v r else .node l v (sr (Nat.pred (Nat.div i 2)))) t i
section
variable {α : Type}
theorem T.get_leaf (i : Nat) : (T.leaf : T α).get i = none := rfl
theorem T.get_node (l r : T α) (v : Option α) (i : Nat) : (T.node l v r).get i = if i = 0 then v else if i % 2 = 1 then l.get (i / 2) else r.get (i / 2 - 1) := by
  show (bif Nat.beq i 0 then v else bif Nat.beq (Nat.mod i 2) 1 then l.get (Nat.div i 2) else r.get (Nat.pred (Nat.div i 2))) = _
  by_cases h : i = 0
  · subst h; rfl
  · have h1 : Nat.beq i 0 = false := by cases hb : Nat.beq i 0 with
      | false => rfl
      | true => exact absurd (Nat.eq_of_beq_eq_true hb) h
    rw [h1, if_neg h]
    by_cases h2 : i % 2 = 1
    · have : Nat.beq (Nat.mod i 2) 1 = true := by show Nat.beq (i % 2) 1 = true; rw [h2]; rfl
      rw [this, if_pos h2]; rfl
    · have : Nat.beq (Nat.mod i 2) 1 = false := by
        cases hb : Nat.beq (Nat.mod i 2) 1 with
        | false => rfl
        | true => exact absurd (Nat.eq_of_beq_eq_true hb) h2
      rw [this, if_neg h2]; rfl
theorem T.one_succ (a : Option α) (f i : Nat) : T.one a (f + 1) i = if i = 0 then .node .leaf a .leaf else if i % 2 = 1 then .node (T.one a f (i / 2)) none .leaf else .node .leaf none (T.one a f (i / 2 - 1)) := by
  show (bif Nat.beq i 0 then (T.node .leaf a .leaf : T α) else bif Nat.beq (Nat.mod i 2) 1 then .node (T.one a f (Nat.div i 2)) none .leaf else .node .leaf none (T.one a f (Nat.pred (Nat.div i 2)))) = _
  by_cases h : i = 0
  · subst h; rfl
  · have h1 : Nat.beq i 0 = false := by cases hb : Nat.beq i 0 with
      | false => rfl
      | true => exact absurd (Nat.eq_of_beq_eq_true hb) h
    rw [h1, if_neg h]
    by_cases h2 : i % 2 = 1
    · have : Nat.beq (Nat.mod i 2) 1 = true := by show Nat.beq (i % 2) 1 = true; rw [h2]; rfl
      rw [this, if_pos h2]; rfl
    · have : Nat.beq (Nat.mod i 2) 1 = false := by
        cases hb : Nat.beq (Nat.mod i 2) 1 with
        | false => rfl
        | true => exact absurd (Nat.eq_of_beq_eq_true hb) h2
      rw [this, if_neg h2]; rfl
theorem T.put_node (l r : T α) (v a : Option α) (i : Nat) : (T.node l v r).put i a = if i = 0 then .node l a r else if i % 2 = 1 then .node (l.put (i / 2) a) v r else .node l v (r.put (i / 2 - 1) a) := by
  show (bif Nat.beq i 0 then (T.node l a r : T α) else bif Nat.beq (Nat.mod i 2) 1 then .node (l.put (Nat.div i 2) a) v r else .node l v (r.put (Nat.pred (Nat.div i 2)) a)) = _
  by_cases h : i = 0
  · subst h; rfl
  · have h1 : Nat.beq i 0 = false := by cases hb : Nat.beq i 0 with
      | false => rfl
      | true => exact absurd (Nat.eq_of_beq_eq_true hb) h
    rw [h1, if_neg h]
    by_cases h2 : i % 2 = 1
    · have : Nat.beq (Nat.mod i 2) 1 = true := by show Nat.beq (i % 2) 1 = true; rw [h2]; rfl
      rw [this, if_pos h2]; rfl
    · have : Nat.beq (Nat.mod i 2) 1 = false := by
        cases hb : Nat.beq (Nat.mod i 2) 1 with
        | false => rfl
        | true => exact absurd (Nat.eq_of_beq_eq_true hb) h2
      rw [this, if_neg h2]; rfl
theorem T.get_one (a : Option α) : ∀ (f i j : Nat), i + 1 < 2 ^ f → (T.one a f i).get j = if j = i then a else none := by
  intro f
  induction f with
  | zero => intro i j hi; simp at hi
  | succ f ih =>
    intro i j hi
    rw [Nat.pow_succ] at hi
    rw [T.one_succ]
    by_cases h : i = 0
    · subst h
      rw [if_pos rfl, T.get_node]
      by_cases hj : j = 0
      · simp [hj]
      · simp only [hj, if_false, T.get_leaf]; split <;> rfl
    · rw [if_neg h]
      by_cases h2 : i % 2 = 1
      · rw [if_pos h2, T.get_node]
        by_cases hj : j = 0
        · subst hj; rw [if_pos rfl, if_neg (by omega)]
        · rw [if_neg hj]
          by_cases hj2 : j % 2 = 1
          · rw [if_pos hj2, ih _ _ (by omega)]
            by_cases e : j = i
            · subst e; simp
            · rw [if_neg e, if_neg (by omega)]
          · rw [if_neg hj2, T.get_leaf, if_neg (by omega)]
      · rw [if_neg h2, T.get_node]
        by_cases hj : j = 0
        · subst hj; rw [if_pos rfl, if_neg (by omega)]
        · rw [if_neg hj]
          by_cases hj2 : j % 2 = 1
          · rw [if_pos hj2, T.get_leaf, if_neg (by omega)]
          · rw [if_neg hj2, ih _ _ (by omega)]
            by_cases e : j = i
            · subst e; simp
            · rw [if_neg e, if_neg (by omega)]
theorem T.get_put (a : Option α) : ∀ (t : T α) (i j : Nat), i + 1 < 2 ^ 64 → (t.put i a).get j = if j = i then a else t.get j := by
  intro t
  induction t with
  | leaf =>
    intro i j hi
    show (T.one a 64 i).get j = _
    rw [T.get_one a 64 i j hi, T.get_leaf]
  | node l v r ihl ihr =>
    intro i j hi
    rw [T.put_node]
    by_cases h : i = 0
    · subst h
      rw [if_pos rfl, T.get_node, T.get_node]
      by_cases hj : j = 0
      · simp [hj]
      · simp [hj]
    · rw [if_neg h]
      by_cases h2 : i % 2 = 1
      · rw [if_pos h2, T.get_node, T.get_node]
        by_cases hj : j = 0
        · subst hj; rw [if_pos rfl, if_neg (by omega), if_pos rfl]
        · rw [if_neg hj, if_neg hj]
          by_cases hj2 : j % 2 = 1
          · rw [if_pos hj2, if_pos hj2, ihl _ _ (by omega)]
            by_cases e : j = i
            · subst e; simp
            · rw [if_neg e, if_neg (by omega)]
          · rw [if_neg hj2, if_neg hj2, if_neg (by omega)]
      · rw [if_neg h2, T.get_node, T.get_node]
        by_cases hj : j = 0
        · subst hj; rw [if_pos rfl, if_neg (by omega), if_pos rfl]
        · rw [if_neg hj, if_neg hj]
          by_cases hj2 : j % 2 = 1
          · rw [if_pos hj2, if_pos hj2, if_neg (by omega)]
          · rw [if_neg hj2, if_neg hj2, ihr _ _ (by omega)]
            by_cases e : j = i
            · subst e; simp
            · rw [if_neg e, if_neg (by omega)]
end
structure EB where
  elem : TypeId
  size : Nat
  z : List Value
  t : T Value
noncomputable def EB.at (b : EB) (i : Nat) : Value := match b.t.get i with
  | some v => v
  | none => (b.z[Nat.mod i b.z.length]?).getD undef
noncomputable def EB.den (b : EB) : Blk := { cells := (Array.range b.size).map b.at, elem := b.elem }
structure EH where
  t : T EB
  n : Nat
  w : List Nat
noncomputable def EH.den (h : EH) : Hp := { m := fun i => (h.t.get i).map EB.den, n := h.n }
theorem den_m {h : EH} {i : Nat} {b : EB} (hb : h.t.get i = some b) : h.den.m i = some b.den := by simp [EH.den, hb]
theorem EB.den_get {b : EB} {i : Nat} (hi : i < b.size) : b.den.cells[i]? = some (b.at i) := by
  simp only [EB.den, Array.getElem?_map]
  rw [Array.getElem?_eq_getElem (by simpa using hi)]
  simp
theorem EB.den_size (b : EB) : b.den.cells.size = b.size := by simp [EB.den]
noncomputable def EB.put (b : EB) (i : Nat) (v : Value) : EB := { b with t := b.t.put i (some v) }
theorem EB.put_den (b : EB) (i : Nat) (v : Value) (hi : i + 1 < 2 ^ 64) : (b.put i v).den = { b.den with cells := b.den.cells.setIfInBounds i v } := by
  unfold EB.den EB.put
  simp only
  congr 1
  apply Array.ext'
  apply List.ext_getElem?
  intro j
  simp only [Array.getElem?_toList, Array.getElem?_setIfInBounds, Array.getElem?_map, Array.size_map, Array.size_range]
  by_cases hj : j < b.size
  · rw [Array.getElem?_eq_getElem (by simpa using hj)]
    simp only [Array.getElem_range, Option.map_some, EB.at, T.get_put _ _ _ _ hi]
    by_cases e : j = i
    · subst e; simp [hj]
    · have : ¬ i = j := fun h => e h.symm
      simp [e, this]
  · rw [Array.getElem?_eq_none (by simpa using hj)]
    by_cases e : i = j
    · subst e; simp [hj]
    · simp [e]
noncomputable def EB.putAll (b : EB) (i : Nat) (vs : List Value) : EB :=
  List.rec (motive := fun _ => Nat → EB → EB) (fun _ b => b) (fun v _ ih i b => ih (Nat.succ i) (b.put i v)) vs i b
theorem EB.putAll_nil (b : EB) (i : Nat) : b.putAll i [] = b := rfl
theorem EB.putAll_cons (b : EB) (i : Nat) (v : Value) (vs : List Value) : b.putAll i (v :: vs) = (b.put i v).putAll (i + 1) vs := rfl
theorem EB.putAll_den : ∀ (vs : List Value) (b : EB) (i : Nat), i + vs.length < 2 ^ 64 → (b.putAll i vs).den = { b.den with cells := setFrom b.den.cells i vs } := by
  intro vs
  induction vs with
  | nil => intro b i _; rfl
  | cons v vs ih =>
    intro b i hi
    simp only [List.length_cons] at hi
    rw [EB.putAll_cons, ih _ _ (by omega), EB.put_den _ _ _ (by omega), setFrom]
noncomputable def EH.set (h : EH) (i : Nat) (b : EB) : EH := { h with t := h.t.put i (some b), w := i :: h.w }
noncomputable def EH.push (h : EH) (b : EB) : EH := { h with t := h.t.put h.n (some b), n := Nat.succ h.n }
noncomputable def EH.kill (h : EH) (i : Nat) : EH := { h with t := h.t.put i none, w := i :: h.w }
theorem EH.set_den (h : EH) (i : Nat) (b : EB) (hi : i + 1 < 2 ^ 64) : (h.set i b).den = h.den.set i b.den := by
  unfold EH.den EH.set Hp.set
  simp only
  congr 1
  funext j
  rw [T.get_put _ _ _ _ hi]
  by_cases e : j = i <;> simp [e]
theorem EH.push_den (h : EH) (b : EB) (hi : h.n + 1 < 2 ^ 64) : (h.push b).den = h.den.push b.den := by
  unfold EH.den EH.push Hp.push
  simp only
  congr 1
  funext j
  rw [T.get_put _ _ _ _ hi]
  by_cases e : j = h.n <;> simp [e]
theorem EH.kill_den (h : EH) (i : Nat) (hi : i + 1 < 2 ^ 64) : (h.kill i).den = h.den.kill i := by
  unfold EH.den EH.kill Hp.kill
  simp only
  congr 1
  funext j
  rw [T.get_put _ _ _ _ hi]
  by_cases e : j = i <;> simp [e]
structure FrS where
  t : T Value
  nt : Nat
  ds : List Deferred
noncomputable def FrS.at (f : FrS) (i : Nat) : Value := match f.t.get i with
  | some v => v
  | none => undef
noncomputable def FrS.den (f : FrS) : Act := { tmps := (Array.range f.nt).map f.at, defers := f.ds }
structure FrS.OK (f : FrS) : Prop where
  small : f.nt < 2 ^ 63
  out : ∀ i, f.nt ≤ i → f.t.get i = none
noncomputable def FrS.eval (f : FrS) : Operand → Value
  | .tmp t => f.at t
  | .const v => v
  | .global g => .pointer (some ⟨g, 0, none⟩)
  | .func g => .func (.func g) #[] #[]
theorem FrS.eval_den {f : FrS} (ok : f.OK) : f.den.eval = f.eval := by
  funext x
  cases x with
  | tmp t =>
    simp only [Act.eval, FrS.eval, FrS.den, Array.getD_eq_getD_getElem?, Array.getElem?_map]
    by_cases ht : t < f.nt
    · rw [Array.getElem?_eq_getElem (by simpa using ht)]; simp
    · rw [Array.getElem?_eq_none (by simpa using ht)]
      simp [FrS.at, ok.out t (Nat.le_of_not_lt ht)]
  | const v => rfl
  | global g => rfl
  | func g => rfl
noncomputable def forceN {β : Type} (x : Nat) (k : Nat → β) : β := Nat.rec (k 0) (fun n _ => k (Nat.succ n)) x
theorem forceN_eq {β : Type} (x : Nat) (k : Nat → β) : forceN x k = k x := by cases x <;> rfl
noncomputable def forceV {β : Type} (v : Value) (k : Value → β) : β := match v with
  | .int kd (.ofNat n) => forceN n fun m => k (.int kd (.ofNat m))
  | .int kd (.negSucc n) => forceN n fun m => k (.int kd (.negSucc m))
  | .bool true => k (.bool true)
  | .bool false => k (.bool false)
  | .pointer (some ⟨b, o, none⟩) => forceN b fun b' => forceN o fun o' => k (.pointer (some ⟨b', o', none⟩))
  | .slice (some ⟨b, o, none⟩) l c => forceN b fun b' => forceN o fun o' => forceN l fun l' => forceN c fun c' => k (.slice (some ⟨b', o', none⟩) l' c')
  | v => k v
theorem forceV_eq {β : Type} (v : Value) (k : Value → β) : forceV v k = k v := by
  unfold forceV
  split <;> simp only [forceN_eq]
noncomputable def FrS.put (f : FrS) (d : Option Tmp) (v : Value) : FrS := match d with
  | none => f
  | some d => bif Nat.blt d f.nt then forceV v fun v => { f with t := f.t.put d (some v) } else f
theorem blt_iff {a b : Nat} : Nat.blt a b = true ↔ a < b := by rw [Nat.blt_eq]
theorem FrS.put_den {f : FrS} (ok : f.OK) (d : Option Tmp) (v : Value) : (f.put d v).den = f.den.put d v ∧ (f.put d v).OK := by
  cases d with
  | none => exact ⟨rfl, ok⟩
  | some d' =>
    obtain ⟨d, rfl⟩ : ∃ d : Nat, d = d' := ⟨d', rfl⟩
    have hs := ok.small
    simp only [FrS.put, forceV_eq]
    cases hb : Nat.blt d f.nt with
    | false =>
      have hd : ¬ d < f.nt := fun h => by rw [blt_iff.2 h] at hb; cases hb
      refine ⟨?_, ok⟩
      simp only [cond_false, FrS.den, Act.put]
      congr 1
      rw [Array.setIfInBounds_eq_of_size_le (by simpa using hd)]
    | true =>
      have hd : d < f.nt := blt_iff.1 hb
      refine ⟨?_, ⟨hs, fun i hi => ?_⟩⟩
      · simp only [cond_true, FrS.den, Act.put]
        congr 1
        apply Array.ext'
        apply List.ext_getElem?
        intro j
        simp only [Array.getElem?_toList, Array.getElem?_setIfInBounds, Array.getElem?_map, Array.size_map, Array.size_range]
        by_cases hj : j < f.nt
        · rw [Array.getElem?_eq_getElem (by simpa using hj)]
          simp only [Array.getElem_range, Option.map_some, FrS.at, T.get_put _ _ _ _ (show d + 1 < 2 ^ 64 by omega)]
          by_cases e : j = d
          · subst e; simp [hj]
          · have : ¬ d = j := fun h => e h.symm
            simp [e, this]
        · rw [Array.getElem?_eq_none (by simpa using hj)]
          have : ¬ d = j := by omega
          simp [this]
      · simp only [cond_true] at hi ⊢
        rw [T.get_put _ _ _ _ (show d + 1 < 2 ^ 64 by omega), if_neg (by omega)]
        exact ok.out i hi
end Go.AH
namespace Go.AH
variable {P : Program} {o : Oper} {ev : Operand → Value}
def freeS : Value → Bool
  | .bool _ | .int _ _ | .float _ _ | .complex _ _ _ | .string _ | .nilFunc | .nilIface => true
  | .pointer none | .map none | .slice none _ _ => true
  | .func _ ⟨[]⟩ ⟨[]⟩ => true
  | _ => false
def freeB : Value → Bool
  | .agg cs => cs.toList.all freeS
  | .tuple cs => cs.toList.all freeS
  | v => freeS v
theorem freeS_bnd {v : Value} (h : freeS v = true) : bnd 0 v := by
  unfold freeS at h
  split at h <;> first | (simp; done) | cases h
theorem freeB_bnd {v : Value} (h : freeB v = true) : bnd 0 v := by
  unfold freeB at h
  split at h
  · rw [bnd_agg]; intro u hu; exact freeS_bnd (List.all_eq_true.1 h u (by simpa using hu))
  · rw [bnd_tuple]; intro u hu; exact freeS_bnd (List.all_eq_true.1 h u (by simpa using hu))
  · exact freeS_bnd h
def still (P : Program) {α : Type} : Sem α → Option α
  | .pure a => some a
  | .program k => still P (k P)
  | .mark _ k => still P k
  | _ => none
theorem still_run {α : Type} {s : Sem α} {a : α} (h : still P s = some a) (W : World) : s.run P W = .ok a W := by
  induction s with
  | pure b => simp [still] at h; subst h; rfl
  | program k ih => exact ih P h
  | mark m k ih => exact ih h
  | _ => simp [still] at h
noncomputable def cellsL (v : Value) : List Value := match v with
  | .agg cs => cs.toList
  | v => [v]
theorem cellsL_eq (v : Value) : cellsL v = v.cells.toList := by cases v <;> rfl
def intNat : Int → Option Nat
  | .ofNat n => some n
  | .negSucc _ => none
theorem intNat_some {i : Int} {n : Nat} (h : intNat i = some n) : i = (n : Int) := by
  cases i with
  | ofNat m => simp [intNat] at h; subst h; rfl
  | negSucc m => simp [intNat] at h
def big : Nat := 1152921504606846976
theorem big_lt : big < 2 ^ 62 := by unfold big; omega
noncomputable def EB.row (e : TypeId) (cs : List Value) : EB := { elem := e, size := cs.length, z := cs, t := .leaf }
theorem EB.row_den (e : TypeId) (cs : List Value) : (EB.row e cs).den = { cells := cs.toArray, elem := e } := by
  unfold EB.row EB.den
  simp only
  congr 1
  apply Array.ext'
  apply List.ext_getElem?
  intro j
  simp only [Array.getElem?_toList, Array.getElem?_map]
  by_cases hj : j < cs.length
  · rw [Array.getElem?_eq_getElem (by simpa using hj)]
    simp only [Array.getElem_range, Option.map_some, EB.at, T.get_leaf]
    have : Nat.mod j cs.length = j := Nat.mod_eq_of_lt hj
    rw [this, List.getElem?_eq_getElem hj]; simp
  · rw [Array.getElem?_eq_none (by simpa using hj)]; simp; omega
noncomputable def EB.zero (e : TypeId) (z : List Value) (n : Nat) : EB := { elem := e, size := n, z := z, t := .leaf }
theorem EB.zero_den (e : TypeId) (z : Array Value) (n : Nat) (hz : z.size ≠ 0) : (EB.zero e z.toList n).den = { cells := zeros z n, elem := e } := by
  unfold EB.zero EB.den zeros
  simp only
  congr 1
  refine Array.map_congr_left fun i _ => ?_
  simp only [EB.at, T.get_leaf, Array.length_toList]
  have hlt : i % z.size < z.size := Nat.mod_lt _ (by omega)
  show (z.toList[i % z.size]?).getD undef = z[i % z.size]!
  rw [Array.getElem?_toList, Array.getElem?_eq_getElem hlt, getElem!_pos z _ hlt]; rfl
noncomputable def EB.seg (b : EB) (i n : Nat) : List Value :=
  Nat.rec (motive := fun _ => Nat → List Value) (fun _ => []) (fun _ ih i => b.at i :: ih (Nat.succ i)) n i
theorem EB.seg_eq (b : EB) : ∀ (n i : Nat), i + n ≤ b.size → b.seg i n = (b.den.cells.extract i (i + n)).toList := by
  intro n
  induction n with
  | zero => intro i hi; show [] = _; simp
  | succ n ih =>
    intro i hi
    show b.at i :: b.seg (i + 1) n = _
    rw [ih (i + 1) (by omega)]
    apply List.ext_getElem?
    intro j
    cases j with
    | zero =>
      simp only [List.getElem?_cons_zero, Array.getElem?_toList, Array.getElem?_extract, EB.den_size]
      rw [if_pos (by omega)]
      simp only [Nat.add_zero]
      exact (EB.den_get (by omega)).symm
    | succ j =>
      simp only [List.getElem?_cons_succ, Array.getElem?_toList, Array.getElem?_extract, EB.den_size]
      by_cases hj : j < n
      · rw [if_pos (by omega), if_pos (by omega)]; congr 1; omega
      · rw [if_neg (by omega), if_neg (by omega)]
noncomputable def blkAt (h : EH) (a : Addr) : Option EB := match a.spot with
  | none => h.t.get a.block
  | some _ => none
theorem blkAt_some {h : EH} {a : Addr} {b : EB} (hb : blkAt h a = some b) : a.spot = none ∧ h.den.m a.block = some b.den := by
  unfold blkAt at hb
  cases hs : a.spot with
  | none => rw [hs] at hb; exact ⟨rfl, den_m hb⟩
  | some _ => rw [hs] at hb; cases hb
noncomputable def evLoad (P : Program) (t : TypeId) (v : Value) (h : EH) : Option (Value × EH) := match v with
  | .pointer (some a) => match blkAt h a, P.underlying t, P.info? t with
    | some b, some d, some ti => bif aggD d then (bif Nat.ble (Nat.add a.off ti.size) b.size then some (.agg ⟨b.seg a.off ti.size⟩, h) else none) else (bif Nat.blt a.off b.size then some (b.at a.off, h) else none)
    | _, _, _ => none
  | _ => none
theorem ble_iff {a b : Nat} : Nat.ble a b = true ↔ a ≤ b := by rw [Nat.ble_eq]
theorem evLoad_ok {x : Operand} {t : TypeId} {h h' : EH} {v : Value} (ho : o.op = .load t x) (he : evLoad P t (ev x) h = some (v, h')) : TX P o ev h.den v h'.den := by
  unfold evLoad at he
  split at he
  · rename_i a hx
    split at he
    · rename_i b d ti hb hd hi
      obtain ⟨hs, hm⟩ := blkAt_some hb
      cases hag : aggD d with
      | true =>
        rw [hag] at he
        simp only [cond_true] at he
        cases hn : Nat.ble (Nat.add a.off ti.size) b.size with
        | false => rw [hn] at he; cases he
        | true =>
          rw [hn] at he
          simp only [cond_true, Option.some.injEq, Prod.mk.injEq] at he
          obtain ⟨rfl, rfl⟩ := he
          have hn' : a.off + ti.size ≤ b.size := ble_iff.1 hn
          have := TX.loadN (P := P) (o := o) (ev := ev) (h := h.den) (b := b.den) ho hd hag hi hx hs hm (by rw [EB.den_size]; exact hn')
          rwa [← Array.toArray_toList (xs := b.den.cells.extract a.off (a.off + ti.size)), ← EB.seg_eq b ti.size a.off hn'] at this
      | false =>
        rw [hag] at he
        simp only [cond_false] at he
        cases hn : Nat.blt a.off b.size with
        | false => rw [hn] at he; cases he
        | true =>
          rw [hn] at he
          simp only [cond_true, Option.some.injEq, Prod.mk.injEq] at he
          obtain ⟨rfl, rfl⟩ := he
          exact TX.load1 ho hd hag hx hs hm (EB.den_get (blt_iff.1 hn))
    · cases he
  · cases he
noncomputable def evStore (P : Program) (t : TypeId) (p v : Value) (h : EH) : Option (Value × EH) := match p with
  | .pointer (some a) => match blkAt h a, P.info? t with
    | some b, some ti => bif Nat.beq (cellsL v).length ti.size && (cellsL v).all (·.oneCell') && Nat.ble (Nat.add a.off ti.size) b.size && Nat.blt b.size big && Nat.blt a.block big
        then some (undef, h.set a.block (b.putAll a.off (cellsL v))) else none
    | _, _ => none
  | _ => none
theorem evStore_ok {x y : Operand} {t : TypeId} {h h' : EH} {v : Value} (ho : o.op = .store t x y) (he : evStore P t (ev x) (ev y) h = some (v, h')) : TX P o ev h.den v h'.den := by
  unfold evStore at he
  split at he
  · rename_i a hx
    split at he
    · rename_i b ti hb hi
      obtain ⟨hs, hm⟩ := blkAt_some hb
      cases hc : (Nat.beq (cellsL (ev y)).length ti.size && (cellsL (ev y)).all (·.oneCell') && Nat.ble (Nat.add a.off ti.size) b.size && Nat.blt b.size big && Nat.blt a.block big) with
      | false => rw [hc] at he; cases he
      | true =>
        rw [hc] at he
        simp only [cond_true, Option.some.injEq, Prod.mk.injEq] at he
        obtain ⟨rfl, rfl⟩ := he
        simp only [Bool.and_eq_true] at hc
        obtain ⟨⟨⟨⟨h1, h2⟩, h3⟩, h4⟩, h5⟩ := hc
        have h1' := Nat.eq_of_beq_eq_true h1
        have h3' : a.off + ti.size ≤ b.size := ble_iff.1 h3
        have h4' := blt_iff.1 h4
        have h5' := blt_iff.1 h5
        have hbg := big_lt
        rw [EH.set_den _ _ _ (by omega), EB.putAll_den _ _ _ (by omega), cellsL_eq]
        rw [cellsL_eq] at h1' h2
        exact TX.store ho hi hx hs hm (by simpa using h1') (by unfold oneCells; rw [← Array.all_toList]; exact h2) (by rw [EB.den_size]; exact h3')
    · cases he
  · cases he
end Go.AH
namespace Go.AH
variable {P : Program} {o : Oper} {ev : Operand → Value}
theorem bif_some {α : Type} {c : Bool} {r x : α} (h : (bif c then some r else none) = some x) : c = true ∧ r = x := by
  cases c
  · cases h
  · exact ⟨rfl, by simpa using h⟩
noncomputable def evPure (P : Program) (o : Oper) (ev : Operand → Value) (h : EH) : Option (Value × EH) :=
  bif o.op.operands.toList.all (fun x => freeB (ev x)) then (match still P (execOp ev o) with
    | some (.value v) => bif freeB v then some (v, h) else none
    | _ => none) else none
theorem evPure_ok {h h' : EH} {v : Value} (hs : ∀ cs b, o.op ≠ .select cs b) (he : evPure P o ev h = some (v, h')) : TX P o ev h.den v h'.den := by
  unfold evPure at he
  cases hf : o.op.operands.toList.all (fun x => freeB (ev x)) with
  | false => rw [hf] at he; cases he
  | true =>
    rw [hf] at he
    simp only [cond_true] at he
    split at he
    · rename_i u hu
      obtain ⟨h1, h2⟩ := bif_some he
      simp only [Prod.mk.injEq] at h2
      obtain ⟨rfl, rfl⟩ := h2
      exact TX.pure hs (fun x hx => freeB_bnd (List.all_eq_true.1 hf x (by simpa using hx))) (fun W => still_run hu W) (freeB_bnd h1)
    · cases he
def plain2 : Value → Value → Bool
  | .int _ _, .int _ _ | .string _, .string _ | .bool _, .bool _ => true
  | _, _ => false
noncomputable def evBin (P : Program) (o : Oper) (op : BinOp) (t : TypeId) (x y : Operand) (ev : Operand → Value) (h : EH) : Option (Value × EH) :=
  bif plain2 (ev x) (ev y) then (match still P (binOp op t (ev x) (ev y)) with
    | some v => bif freeS v then some (v, h) else none
    | none => none)
  else match isEq op, ev x, ev y, P.underlying t with
    | some q, .pointer A, .pointer none, some (.pointer _) => some (.bool (A.isNone == q), h)
    | some q, .slice A _ _, .slice none 0 0, some (.slice _) => some (.bool (A.isNone == q), h)
    | _, _, _, _ => evPure P o ev h
theorem evBin_ok {op : BinOp} {t yt : TypeId} {x y : Operand} {h h' : EH} {v : Value} (ho : o.op = .binOp op t x y yt) (he : evBin P o op t x y ev h = some (v, h')) : TX P o ev h.den v h'.den := by
  unfold evBin at he
  cases hp : plain2 (ev x) (ev y) with
  | true =>
    rw [hp] at he
    simp only [cond_true] at he
    split at he
    · rename_i u hu
      obtain ⟨h1, h2⟩ := bif_some he
      simp only [Prod.mk.injEq] at h2
      obtain ⟨rfl, rfl⟩ := h2
      have hfr : bnd 0 (ev x) ∧ bnd 0 (ev y) ∧ (match ev x, ev y with | .nilIface, .nilIface => false | .agg _, .agg _ => false | _, _ => true) = true := by
        unfold plain2 at hp
        split at hp <;> first | (simp_all; done) | cases hp
      refine TX.pure (fun cs b => by rw [ho]; simp) (fun z hz => ?_) (fun W => ?_) (freeS_bnd h1)
      · simp only [ho, Op.operands, List.mem_toArray, List.mem_cons, List.not_mem_nil, or_false] at hz
        rcases hz with rfl | rfl
        · exact hfr.1
        · exact hfr.2.1
      · have := still_run hu W
        simp only [execOp, ho, Sem.run_bind, eqGuard_run hfr.2.2, Result.andThen_ok, this, Sem.run_pure]
    · cases he
  | false =>
    rw [hp] at he
    simp only [cond_false] at he
    split at he
    · rename_i q A e hop hx hy ht
      simp only [Option.some.injEq, Prod.mk.injEq] at he
      obtain ⟨rfl, rfl⟩ := he
      exact TX.eqPtrNil ho hop ht hx hy
    · rename_i q A l c e hop hx hy ht
      simp only [Option.some.injEq, Prod.mk.injEq] at he
      obtain ⟨rfl, rfl⟩ := he
      exact TX.eqSliceNil ho hop ht hx hy
    · exact evPure_ok (fun cs b => by rw [ho]; simp) he
noncomputable def evFieldAddr (P : Program) (t : TypeId) (v : Value) (i : Nat) (h : EH) : Option (Value × EH) := match v, P.underlying t with
  | .pointer (some a), some (.struct fs) => match fs.toList[i]? with
    | some f => match P.info? f.type with
      | some fi => bif Nat.beq fi.size 0 then none else some (.pointer (some (bif Nat.beq f.offset 0 then a else { block := a.block, off := Nat.add a.off f.offset, spot := none })), h)
      | none => none
    | none => none
  | _, _ => none
theorem add_eq (a : Addr) (n : Nat) : a.add n = bif Nat.beq n 0 then a else { block := a.block, off := Nat.add a.off n, spot := none } := by
  unfold Addr.add
  cases n with
  | zero => rfl
  | succ n => rfl
theorem evFieldAddr_ok {t : TypeId} {x : Operand} {i : Nat} {h h' : EH} {v : Value} (ho : o.op = .fieldAddr t x i) (he : evFieldAddr P t (ev x) i h = some (v, h')) : TX P o ev h.den v h'.den := by
  unfold evFieldAddr at he
  split at he
  · rename_i a fs hx ht
    split at he
    · rename_i f hf
      split at he
      · rename_i fi hi
        cases hz : Nat.beq fi.size 0 with
        | true => rw [hz] at he; cases he
        | false =>
          rw [hz] at he
          simp only [cond_false, Option.some.injEq, Prod.mk.injEq] at he
          obtain ⟨rfl, rfl⟩ := he
          rw [← add_eq]
          exact TX.fieldAddr ho ht (by simpa using hf) hi (fun e => by rw [e] at hz; cases hz) hx
      · cases he
    · cases he
  · cases he
noncomputable def evIndexAddr (P : Program) (t : TypeId) (x y : Value) (h : EH) : Option (Value × EH) := match x, y, P.underlying t with
  | .slice (some a) len _, .int _ i, some (.slice e) => match intNat i, P.info? e with
    | some n, some ei => bif Nat.blt n len then some (.pointer (some (bif Nat.beq (Nat.mul n ei.size) 0 then a else { block := a.block, off := Nat.add a.off (Nat.mul n ei.size), spot := none })), h) else none
    | _, _ => none
  | .pointer (some a), .int _ i, some (.array len e) => match intNat i, P.info? e with
    | some n, some ei => bif Nat.blt n len then some (.pointer (some (bif Nat.beq (Nat.mul n ei.size) 0 then a else { block := a.block, off := Nat.add a.off (Nat.mul n ei.size), spot := none })), h) else none
    | _, _ => none
  | _, _, _ => none
theorem evIndexAddr_ok {t : TypeId} {x y : Operand} {h h' : EH} {v : Value} (ho : o.op = .indexAddr t x y) (he : evIndexAddr P t (ev x) (ev y) h = some (v, h')) : TX P o ev h.den v h'.den := by
  unfold evIndexAddr at he
  split at he
  · rename_i a len cap k i e hx hy ht
    split at he
    · rename_i n ei hn hi
      obtain ⟨h1, h2⟩ := bif_some he
      simp only [Prod.mk.injEq] at h2
      obtain ⟨rfl, rfl⟩ := h2
      have hi' := intNat_some hn
      subst hi'
      have h1' := blt_iff.1 h1
      have := TX.indexAddr (P := P) (o := o) (ev := ev) (h := h.den) ho ht hi hx hy (by omega) (by omega)
      rw [Int.toNat_natCast, add_eq] at this
      exact this
    · cases he
  · rename_i a k i len e hx hy ht
    split at he
    · rename_i n ei hn hi
      obtain ⟨h1, h2⟩ := bif_some he
      simp only [Prod.mk.injEq] at h2
      obtain ⟨rfl, rfl⟩ := h2
      have hi' := intNat_some hn
      subst hi'
      have h1' := blt_iff.1 h1
      have := TX.indexAddrA (P := P) (o := o) (ev := ev) (h := h.den) ho ht hi hx hy (by omega) (by omega)
      rw [Int.toNat_natCast, add_eq] at this
      exact this
    · cases he
  · cases he
noncomputable def evExtract (v : Value) (i : Nat) (h : EH) : Option (Value × EH) := match v with
  | .tuple vs => match vs.toList[i]? with
    | some u => some (u, h)
    | none => none
  | _ => none
theorem evExtract_ok {x : Operand} {i : Nat} {h h' : EH} {v : Value} (ho : o.op = .extract x i) (he : evExtract (ev x) i h = some (v, h')) : TX P o ev h.den v h'.den := by
  unfold evExtract at he
  split at he
  · rename_i vs hx
    split at he
    · rename_i u hu
      simp only [Option.some.injEq, Prod.mk.injEq] at he
      obtain ⟨rfl, rfl⟩ := he
      exact TX.extract ho hx (by simpa using hu)
    · cases he
  · cases he
noncomputable def evField (P : Program) (t : TypeId) (v : Value) (i : Nat) (h : EH) : Option (Value × EH) := match v, P.underlying t with
  | .agg cs, some (.struct fs) => match fs.toList[i]? with
    | some f => match P.underlying f.type, P.info? f.type with
      | some d, some fi => bif aggD d then some (.agg ⟨(cs.toList.drop f.offset).take fi.size⟩, h) else (match cs.toList[f.offset]? with | some u => some (u, h) | none => none)
      | _, _ => none
    | none => none
  | _, _ => none
theorem evField_ok {t : TypeId} {x : Operand} {i : Nat} {h h' : EH} {v : Value} (ho : o.op = .field t x i) (he : evField P t (ev x) i h = some (v, h')) : TX P o ev h.den v h'.den := by
  unfold evField at he
  split at he
  · rename_i cs fs hx ht
    split at he
    · rename_i f hf
      split at he
      · rename_i d fi hd hi
        cases hag : aggD d with
        | true =>
          rw [hag] at he
          simp only [cond_true, Option.some.injEq, Prod.mk.injEq] at he
          obtain ⟨rfl, rfl⟩ := he
          have := TX.fieldN (P := P) (o := o) (ev := ev) (h := h.den) ho ht (by simpa using hf) hd hag hi hx
          have e : cs.extract f.offset (f.offset + fi.size) = ⟨(cs.toList.drop f.offset).take fi.size⟩ := by
            apply Array.ext'; simp [Array.toList_extract, List.extract_eq_take_drop]
          rwa [e] at this
        | false =>
          rw [hag] at he
          simp only [cond_false] at he
          split at he
          · rename_i u hu
            simp only [Option.some.injEq, Prod.mk.injEq] at he
            obtain ⟨rfl, rfl⟩ := he
            exact TX.field1 ho ht (by simpa using hf) hd hag hx (by simpa using hu)
          · cases he
      · cases he
    · cases he
  · cases he
end Go.AH
namespace Go.AH
variable {P : Program} {o : Oper} {ev : Operand → Value}
noncomputable def zeroOf (P : Program) (t : TypeId) : Option (TypeInfo × Value) := match P.info? t with
  | some ti => match ti.zero with
    | some z => bif freeB z then some (ti, z) else none
    | none => none
  | none => none
theorem zeroOf_some {t : TypeId} {ti : TypeInfo} {z : Value} (h : zeroOf P t = some (ti, z)) : P.info? t = some ti ∧ ti.zero = some z ∧ bnd 0 z := by
  unfold zeroOf at h
  split at h
  · rename_i ti' hi
    split at h
    · rename_i z' hz
      obtain ⟨h1, h2⟩ := bif_some h
      simp only [Prod.mk.injEq] at h2
      obtain ⟨rfl, rfl⟩ := h2
      exact ⟨hi, hz, freeB_bnd h1⟩
    · cases h
  · cases h
noncomputable def evNew (e : TypeId) (cs : List Value) (h : EH) : Option (Value × EH) := bif Nat.blt h.n big then some (.pointer (some ⟨h.n, 0, none⟩), h.push (EB.row e cs)) else none
theorem evNew_some {e : TypeId} {cs : List Value} {h h' : EH} {v : Value} (he : evNew e cs h = some (v, h')) : v = .pointer (some ⟨h.den.n, 0, none⟩) ∧ h'.den = h.den.push { cells := cs.toArray, elem := e } := by
  unfold evNew at he
  obtain ⟨h1, h2⟩ := bif_some he
  simp only [Prod.mk.injEq] at h2
  obtain ⟨rfl, rfl⟩ := h2
  have := blt_iff.1 h1
  have hb := big_lt
  rw [EH.push_den _ _ (by omega), EB.row_den]
  exact ⟨rfl, rfl⟩
noncomputable def evAlloc (P : Program) (t : TypeId) (h : EH) : Option (Value × EH) := match zeroOf P t with
  | some (_, z) => evNew t (cellsL z) h
  | none => none
theorem evAlloc_ok {t : TypeId} {h h' : EH} {v : Value} (ho : o.op = .alloc t) (he : evAlloc P t h = some (v, h')) : TX P o ev h.den v h'.den := by
  unfold evAlloc at he
  split at he
  · rename_i ti z hz
    obtain ⟨h1, h2, h3⟩ := zeroOf_some hz
    obtain ⟨rfl, he'⟩ := evNew_some he
    rw [he', cellsL_eq, Array.toArray_toList]
    exact TX.alloc ho h1 h2 h3
  · cases he
theorem evBox_ok {t : TypeId} {x : Operand} {h h' : EH} {v : Value} (ho : o.op = .box t x) (he : evNew t (cellsL (ev x)) h = some (v, h')) : TX P o ev h.den v h'.den := by
  obtain ⟨rfl, he'⟩ := evNew_some he
  rw [he', cellsL_eq, Array.toArray_toList]
  exact TX.box ho
noncomputable def evBuild (P : Program) (t : TypeId) (parts : Array (Nat × Operand)) (ev : Operand → Value) (h : EH) : Option (Value × EH) := match zeroOf P t, P.built t (parts.toList.map fun p => (p.1, ev p.2)) with
  | some _, some cs => some (.agg cs, h)
  | _, _ => none
theorem evBuild_ok {t : TypeId} {parts : Array (Nat × Operand)} {h h' : EH} {v : Value} (ho : o.op = .build t parts) (he : evBuild P t parts ev h = some (v, h')) : TX P o ev h.den v h'.den := by
  unfold evBuild at he
  split at he
  · rename_i tz cs hz hb
    simp only [Option.some.injEq, Prod.mk.injEq] at he
    obtain ⟨rfl, rfl⟩ := he
    obtain ⟨h1, h2, h3⟩ := zeroOf_some (ti := tz.1) (z := tz.2) hz
    exact TX.build ho h1 h2 h3 hb
  · cases he
noncomputable def evBuildSlice (P : Program) (t : TypeId) (len : Nat) (parts : Array (Nat × Operand)) (ev : Operand → Value) (h : EH) : Option (Value × EH) := match P.underlying t with
  | some (.slice e) => match zeroOf P e with
    | some (ei, z) => match Instr.fill (fun i => some (i * ei.size, ei.size)) (zeros z.cells (len * ei.size)) (parts.toList.map fun p => (p.1, ev p.2)) with
      | some cs => bif Nat.ble (Nat.mul len ei.size) 16777216 && !(Nat.beq (Nat.mul len ei.size) 0) && Nat.blt h.n big then some (.slice (some ⟨h.n, 0, none⟩) len len, h.push (EB.row e cs.toList)) else none
      | none => none
    | none => none
  | _ => none
theorem evBuildSlice_ok {t : TypeId} {len : Nat} {parts : Array (Nat × Operand)} {h h' : EH} {v : Value} (ho : o.op = .buildSlice t len parts) (he : evBuildSlice P t len parts ev h = some (v, h')) : TX P o ev h.den v h'.den := by
  unfold evBuildSlice at he
  split at he
  · rename_i e ht
    split at he
    · rename_i ei z hz
      obtain ⟨h1, h2, h3⟩ := zeroOf_some hz
      split at he
      · rename_i cs hf
        obtain ⟨hc, hv⟩ := bif_some he
        simp only [Prod.mk.injEq] at hv
        obtain ⟨rfl, rfl⟩ := hv
        simp only [Bool.and_eq_true, Bool.not_eq_true'] at hc
        obtain ⟨⟨c1, c2⟩, c3⟩ := hc
        have c1' : len * ei.size ≤ 16777216 := ble_iff.1 c1
        have c3' := blt_iff.1 c3
        have hb := big_lt
        have c2' : len * ei.size ≠ 0 := fun e0 => by
          have : Nat.mul len ei.size = 0 := e0
          rw [this] at c2; cases c2
        rw [EH.push_den _ _ (by omega), EB.row_den, Array.toArray_toList]
        exact TX.buildSlice ho ht h1 h2 h3 (by omega) c2' hf
      · cases he
    · cases he
  · cases he
noncomputable def evMake (P : Program) (t : TypeId) (x y : Value) (h : EH) : Option (Value × EH) := match P.underlying t, x, y with
  | some (.slice e), .int _ i, .int _ j => match zeroOf P e, intNat i, intNat j with
    | some (ei, z), some l, some c => bif Nat.ble l c && Nat.ble c 9223372036854775807 && Nat.ble (Nat.mul ei.bytes c) 281474976710656 && Nat.blt h.n big && !(Nat.beq (cellsL z).length 0)
        then some (.slice (some ⟨h.n, 0, none⟩) l c, h.push (EB.zero e (cellsL z) (Nat.mul c ei.size))) else none
    | _, _, _ => none
  | _, _, _ => none
theorem evMake_ok {t : TypeId} {x y : Operand} {h h' : EH} {v : Value} (ho : o.op = .makeSlice t x y) (he : evMake P t (ev x) (ev y) h = some (v, h')) : TX P o ev h.den v h'.den := by
  unfold evMake at he
  split at he
  · rename_i e k i k' j ht hx hy
    split at he
    · rename_i ei z l c hz hl hc
      obtain ⟨h1, h2, h3⟩ := zeroOf_some hz
      obtain ⟨hcc, hv⟩ := bif_some he
      simp only [Prod.mk.injEq] at hv
      obtain ⟨rfl, rfl⟩ := hv
      simp only [Bool.and_eq_true, Bool.not_eq_true'] at hcc
      obtain ⟨⟨⟨⟨c1, c2⟩, c3⟩, c4⟩, c5⟩ := hcc
      have e1 := intNat_some hl
      have e2 := intNat_some hc
      subst e1 e2
      have c4' := blt_iff.1 c4
      have hb := big_lt
      have c5' : z.cells.size ≠ 0 := fun e0 => by
        rw [cellsL_eq] at c5
        simp only [Array.length_toList, e0] at c5
        cases c5
      rw [EH.push_den _ _ (by omega), cellsL_eq, EB.zero_den _ _ _ c5']
      have c3' : ei.bytes * c ≤ 281474976710656 := ble_iff.1 c3
      exact TX.makeSlice ho ht h1 h2 h3 hx hy (ble_iff.1 c1) (ble_iff.1 c2) (by omega)
    · cases he
  · cases he
noncomputable def evBound (ev : Operand → Value) (x : Option Operand) (d : Nat) : Option Nat := match x with
  | none => some d
  | some y => match ev y with
    | .int _ i => intNat i
    | _ => none
theorem evBound_ok {x : Option Operand} {d n : Nat} (h : evBound ev x d = some n) : boundIs ev x d n := by
  unfold evBound at h
  cases x with
  | none => simp at h; exact h.symm
  | some y =>
    simp only at h
    split at h
    · rename_i k i hy
      exact ⟨k, by rw [hy, intNat_some h]⟩
    · cases h
noncomputable def evSlice (P : Program) (o : Oper) (t : TypeId) (x : Operand) (lo hi mx : Option Operand) (ev : Operand → Value) (h : EH) : Option (Value × EH) := match ev x, P.underlying t, mx with
  | .slice (some a) len cap, some (.slice e), none => match P.info? e, evBound ev lo 0, evBound ev hi len with
    | some ei, some l, some r =>
      bif Nat.blt cap capMark then (bif Nat.ble l r && Nat.ble r cap then some (.slice (some (bif Nat.beq cap l then a else bif Nat.beq (Nat.mul l ei.size) 0 then a else { block := a.block, off := Nat.add a.off (Nat.mul l ei.size), spot := none })) (Nat.sub r l) (Nat.sub cap l), h) else none)
      else (match blkAt h a with
        | some b => bif Nat.beq cap (Nat.add capMark ei.size) && Nat.blt 0 ei.size && Nat.ble l r && Nat.ble (Nat.add a.off (Nat.mul r ei.size)) b.size && (Nat.beq l 0 || Nat.ble (Nat.add a.off (Nat.mul (Nat.succ l) ei.size)) b.size)
            then some (.slice (some (bif Nat.beq (Nat.mul l ei.size) 0 then a else { block := a.block, off := Nat.add a.off (Nat.mul l ei.size), spot := none })) (Nat.sub r l) cap, h) else none
        | none => none)
    | _, _, _ => none
  | .slice none 0 0, some (.slice e), none => match P.info? e, evBound ev lo 0, evBound ev hi 0 with
    | some _, some 0, some 0 => some (.slice none 0 0, h)
    | _, _, _ => none
  | _, _, _ => evPure P o ev h
theorem evSlice_ok {t : TypeId} {x : Operand} {lo hi mx : Option Operand} {h h' : EH} {v : Value} (ho : o.op = .slice t x lo hi mx) (he : evSlice P o t x lo hi mx ev h = some (v, h')) : TX P o ev h.den v h'.den := by
  unfold evSlice at he
  split at he
  · rename_i a len cap e hx ht
    split at he
    · rename_i ei l r hi' hl hr
      have bl := evBound_ok hl
      have br := evBound_ok hr
      cases hc : Nat.blt cap capMark with
      | true =>
        rw [hc] at he
        simp only [cond_true] at he
        obtain ⟨c, hv⟩ := bif_some he
        simp only [Prod.mk.injEq] at hv
        obtain ⟨rfl, rfl⟩ := hv
        simp only [Bool.and_eq_true] at c
        have := TX.sliceS (P := P) (o := o) (ev := ev) (h := h.den) ho ht hi' hx bl br (ble_iff.1 c.1) (ble_iff.1 c.2) (blt_iff.1 hc)
        have e1 : (bif Nat.beq cap l then a else bif Nat.beq (Nat.mul l ei.size) 0 then a else { block := a.block, off := Nat.add a.off (Nat.mul l ei.size), spot := none }) = if cap = l then a else a.add (l * ei.size) := by
          rw [add_eq]
          by_cases hcl : cap = l
          · have : Nat.beq cap l = true := by rw [hcl]; exact Nat.beq_refl l
            rw [this, if_pos hcl]; rfl
          · have : Nat.beq cap l = false := by
              cases hb : Nat.beq cap l with
              | false => rfl
              | true => exact absurd (Nat.eq_of_beq_eq_true hb) hcl
            rw [this, if_neg hcl]; rfl
        rw [e1]
        exact this
      | false =>
        rw [hc] at he
        simp only [cond_false] at he
        split at he
        · rename_i b hb
          obtain ⟨c, hv⟩ := bif_some he
          simp only [Prod.mk.injEq] at hv
          obtain ⟨rfl, rfl⟩ := hv
          simp only [Bool.and_eq_true, Bool.or_eq_true] at c
          obtain ⟨⟨⟨⟨c1, c2⟩, c3⟩, c4⟩, c5⟩ := c
          have c1' : cap = capOf ei.size := Nat.eq_of_beq_eq_true c1
          subst c1'
          obtain ⟨hs, hm⟩ := blkAt_some hb
          rw [← add_eq]
          exact TX.sliceM ho ht hi' (blt_iff.1 c2) hx bl br (ble_iff.1 c3) hm (by rw [EB.den_size]; exact ble_iff.1 c4) (by
            rw [EB.den_size]
            rcases c5 with c5 | c5
            · exact .inl (Nat.eq_of_beq_eq_true c5)
            · exact .inr (ble_iff.1 c5))
        · cases he
    · cases he
  · rename_i e hx ht
    split at he
    · rename_i hi' hl hr
      simp only [Option.some.injEq, Prod.mk.injEq] at he
      obtain ⟨rfl, rfl⟩ := he
      exact TX.sliceNil ho ht hi' hx (evBound_ok hl) (evBound_ok hr)
    · cases he
  · exact evPure_ok (fun cs b => by rw [ho]; simp) he
end Go.AH
namespace Go.AH
variable {P : Program} {o : Oper} {ev : Operand → Value}
noncomputable def evSrc (h : EH) (size n : Nat) : Value → Option (List Value)
  | .slice (some a) _ _ => match blkAt h a with
    | some b => bif Nat.ble (Nat.add a.off (Nat.mul n size)) b.size then some (b.seg a.off (Nat.mul n size)) else none
    | none => none
  | .slice none _ _ => some []
  | .string s => some (((s.data.toList.take n)).map fun b => .int .u8 b.toNat)
  | _ => none
theorem evSrc_ok {h : EH} {size n : Nat} {x : Value} {cs : List Value} (hc : evSrc h size n x = some cs) : srcCells h.den size n x = some cs.toArray := by
  unfold evSrc at hc
  split at hc
  · rename_i a l c
    split at hc
    · rename_i b hb
      obtain ⟨h1, rfl⟩ := bif_some hc
      obtain ⟨hs, hm⟩ := blkAt_some hb
      have h1' : a.off + n * size ≤ b.size := ble_iff.1 h1
      simp only [srcCells, hm]
      rw [if_pos ⟨hs, by rw [EB.den_size]; exact h1'⟩]
      congr 1
      apply Array.ext'
      exact (EB.seg_eq b (n * size) a.off h1').symm
    · cases hc
  · simp only [Option.some.injEq] at hc
    subst hc; rfl
  · simp only [Option.some.injEq] at hc
    subst hc
    simp only [srcCells]
    congr 1
    apply Array.ext'
    simp [ByteArray.extract, ByteArray.copySlice]
  · cases hc
noncomputable def evLen : Value → Option Nat
  | .slice _ n _ => some n
  | .string s => some s.data.toList.length
  | _ => none
theorem evLen_ok {v : Value} {n : Nat} (h : evLen v = some n) : srcLen v = some n := by
  cases v <;> simp [evLen, srcLen] at h ⊢ <;> exact h
noncomputable def evCopy (P : Program) (t : TypeId) (x y : Value) (h : EH) : Option (Value × EH) := match x, P.underlying t, evLen y with
  | .slice (some a) len _, some (.slice e), some m => match P.info? e, blkAt h a with
    | some ei, some b => match evSrc h ei.size (bif Nat.ble m len then m else len) y with
      | some cs => bif Nat.ble (Nat.add a.off cs.length) b.size && cs.all (·.oneCell') && Nat.blt b.size big && Nat.blt a.block big then some (.int .i64 (Int.ofNat (bif Nat.ble m len then m else len)), h.set a.block (b.putAll a.off cs)) else none
      | none => none
    | _, _ => none
  | _, _, _ => none
theorem min_bif (m len : Nat) : (bif Nat.ble m len then m else len) = min m len := by
  cases h : Nat.ble m len with
  | true => have := ble_iff.1 h; simp; omega
  | false =>
    have : ¬ m ≤ len := fun hh => by rw [ble_iff.2 hh] at h; cases h
    simp; omega
theorem evCopy_ok {t t' : TypeId} {x y : Operand} {h h' : EH} {v : Value} (ho : o.op = .call { callee := .builtin .copy, args := #[x, y], argTypes := #[t, t'] }) (he : evCopy P t (ev x) (ev y) h = some (v, h')) : TX P o ev h.den v h'.den := by
  unfold evCopy at he
  split at he
  · rename_i a len cap e m hx ht hm
    split at he
    · rename_i ei b hi hb
      obtain ⟨hs, hbm⟩ := blkAt_some hb
      split at he
      · rename_i cs hcs
        obtain ⟨hc, hv⟩ := bif_some he
        simp only [Prod.mk.injEq] at hv
        obtain ⟨rfl, rfl⟩ := hv
        simp only [Bool.and_eq_true] at hc
        obtain ⟨⟨⟨c1, c2⟩, c3⟩, c4⟩ := hc
        have c1' : a.off + cs.length ≤ b.size := ble_iff.1 c1
        have c3' := blt_iff.1 c3
        have c4' := blt_iff.1 c4
        have hbg := big_lt
        rw [min_bif] at hcs ⊢
        rw [EH.set_den _ _ _ (by omega), EB.putAll_den _ _ _ (by omega)]
        have := TX.copy (P := P) (o := o) (ev := ev) (h := h.den) ho ht hi hx (evLen_ok hm) (evSrc_ok hcs) hs hbm (by rw [EB.den_size]; simpa using c1') (by simpa using c2)
        exact this
      · cases he
    · cases he
  · cases he
noncomputable def evAppend (P : Program) (t t2 : TypeId) (x y : Value) (h : EH) : Option (Value × EH) := match x, P.underlying t, P.underlying t2, evLen y with
  | .slice A len cap, some (.slice e), some d2, some n => match zeroOf P e with
    | some (ei, z) => match evSrc h ei.size n y with
      | some new =>
        bif srcType d2 && Nat.blt 0 ei.size && Nat.beq (cellsL z).length ei.size && Nat.beq new.length (Nat.mul n ei.size) && new.all (·.oneCell') && Nat.ble (Nat.add len n) 9223372036854775807 && Nat.ble (Nat.mul (Nat.add len n) ei.bytes) 140737488355328 && Nat.blt h.n big then
          (bif Nat.blt cap capMark then
            (bif Nat.ble (Nat.add len n) cap then
              (match A with
                | some a => match blkAt h a with
                  | some b => bif Nat.ble (Nat.add a.off (Nat.mul (Nat.add len n) ei.size)) b.size && Nat.blt b.size big && Nat.blt a.block big then some (.slice (some a) (Nat.add len n) cap, h.set a.block (b.putAll (Nat.add a.off (Nat.mul len ei.size)) new)) else none
                  | none => none
                | none => some (.slice none (Nat.add len n) cap, h))
            else (match evSrc h ei.size len (.slice A len cap) with
                | some old => bif Nat.beq old.length (Nat.mul len ei.size) then some (.slice (some ⟨h.n, 0, none⟩) (Nat.add len n) (Nat.add capMark ei.size), h.push (EB.row e (old ++ new))) else none
                | none => none))
          else (match A with
            | some a => match blkAt h a with
              | some b => bif Nat.beq cap (Nat.add capMark ei.size) && Nat.blt a.block big && Nat.blt (Nat.add b.size (Nat.mul n ei.size)) big then
                  (bif Nat.ble (Nat.add a.off (Nat.mul (Nat.add len n) ei.size)) b.size then some (.slice (some a) (Nat.add len n) cap, h.set a.block (b.putAll (Nat.add a.off (Nat.mul len ei.size)) new))
                   else bif Nat.beq a.off 0 && Nat.beq b.size (Nat.mul len ei.size) && Nat.beq b.elem e then some (.slice (some ⟨h.n, 0, none⟩) (Nat.add len n) cap, (h.kill a.block).push ({ b with size := Nat.add b.size (Nat.mul n ei.size) }.putAll b.size new)) else none)
                  else none
              | none => none
            | none => none))
        else none
      | none => none
    | none => none
  | _, _, _, _ => none
theorem EB.grow_den (b : EB) (new : List Value) (hn : b.size + new.length < 2 ^ 64) : (({ b with size := b.size + new.length } : EB).putAll b.size new).den = { cells := b.den.cells ++ new.toArray, elem := b.elem } := by
  rw [EB.putAll_den _ _ _ hn]
  have h1 : ({ b with size := b.size + new.length } : EB).den.cells = b.den.cells ++ ((List.range new.length).map fun i => b.at (b.size + i)).toArray := by
    apply Array.ext'
    apply List.ext_getElem?
    intro j
    simp only [EB.den, Array.toList_map, Array.toList_append, List.getElem?_map]
    by_cases hj : j < b.size
    · rw [List.getElem?_append_left (by simpa using hj)]
      simp only [List.getElem?_map, Array.getElem?_toList]
      rw [Array.getElem?_eq_getElem (by simp; omega), Array.getElem?_eq_getElem (by simpa using hj)]
      simp; rfl
    · rw [List.getElem?_append_right (by simpa using hj)]
      simp only [List.length_map, Array.length_toList, Array.size_range]
      by_cases hj2 : j < b.size + new.length
      · rw [Array.getElem?_toList, Array.getElem?_eq_getElem (by simpa using hj2)]
        simp only [Array.getElem_range, Option.map_some, List.getElem?_map]
        rw [List.getElem?_range (by omega)]
        simp only [Option.map_some]
        have : b.size + (j - b.size) = j := by omega
        rw [this]; rfl
      · rw [Array.getElem?_toList, Array.getElem?_eq_none (by simpa using hj2), List.getElem?_eq_none (by simp; omega)]; rfl
  have hset : ∀ (l : List Value) (p q : Array Value), l.length = q.size → setFrom (p ++ q) p.size l = p ++ l.toArray := by
    intro l
    induction l with
    | nil => intro p q hq; simp at hq; have : q = #[] := Array.eq_empty_of_size_eq_zero hq.symm; subst this; simp [setFrom]
    | cons v l ih =>
      intro p q hq
      obtain ⟨q⟩ := q
      cases q with
      | nil => simp at hq
      | cons u q =>
        rw [setFrom]
        have h3 : (p ++ (u :: q).toArray).setIfInBounds p.size v = (p.push v) ++ q.toArray := by
          rw [Array.setIfInBounds_append_right (Nat.le_refl _)]; simp
        rw [h3]
        have h4 := ih (p.push v) q.toArray (by simpa using hq)
        rw [Array.size_push] at h4
        rw [h4, ← Array.toList_inj]; simp
  have h2 := hset new b.den.cells ((List.range new.length).map fun i => b.at (b.size + i)).toArray (by simp)
  rw [EB.den_size] at h2
  simp only
  rw [h1, h2]
  rfl
theorem evAppend_ok {t t2 : TypeId} {x y : Operand} {h h' : EH} {v : Value} (ho : o.op = .call { callee := .builtin .append, args := #[x, y], argTypes := #[t, t2] }) (he : evAppend P t t2 (ev x) (ev y) h = some (v, h')) : TX P o ev h.den v h'.den := by
  unfold evAppend at he
  split at he
  · rename_i A len cap e d2 n hx ht h2 hn
    split at he
    · rename_i ei z hz
      obtain ⟨z1, z2, z3⟩ := zeroOf_some hz
      split at he
      · rename_i new hnew
        cases hc : (srcType d2 && Nat.blt 0 ei.size && Nat.beq (cellsL z).length ei.size && Nat.beq new.length (Nat.mul n ei.size) && new.all (·.oneCell') && Nat.ble (Nat.add len n) 9223372036854775807 && Nat.ble (Nat.mul (Nat.add len n) ei.bytes) 140737488355328 && Nat.blt h.n big) with
        | false => rw [hc] at he; cases he
        | true =>
          rw [hc] at he
          simp only [cond_true] at he
          simp only [Bool.and_eq_true] at hc
          obtain ⟨⟨⟨⟨⟨⟨⟨c1, c2⟩, c3⟩, c4⟩, c5⟩, c6⟩, c7⟩, c8⟩ := hc
          have c2' := blt_iff.1 c2
          have c3' : z.cells.size = ei.size := by have := Nat.eq_of_beq_eq_true c3; rw [cellsL_eq] at this; simpa using this
          have c4' : new.length = n * ei.size := Nat.eq_of_beq_eq_true c4
          have c6' : len + n ≤ 9223372036854775807 := ble_iff.1 c6
          have c7' : (len + n) * ei.bytes ≤ 140737488355328 := ble_iff.1 c7
          have c8' := blt_iff.1 c8
          have hbg := big_lt
          have hs2 := evSrc_ok hnew
          have hn' := evLen_ok hn
          have hall : new.toArray.all (·.oneCell') = true := by simpa using c5
          have hmul : (len + n) * ei.size = len * ei.size + n * ei.size := Nat.add_mul _ _ _
          cases hcm : Nat.blt cap capMark with
          | true =>
            rw [hcm] at he
            simp only [cond_true] at he
            have hcm' := blt_iff.1 hcm
            cases hr : Nat.ble (Nat.add len n) cap with
            | true =>
              rw [hr] at he
              simp only [cond_true] at he
              have hr' : len + n ≤ cap := ble_iff.1 hr
              split at he
              · rename_i a
                split at he
                · rename_i b hb
                  obtain ⟨hs, hm⟩ := blkAt_some hb
                  obtain ⟨d, hv⟩ := bif_some he
                  simp only [Prod.mk.injEq] at hv
                  obtain ⟨rfl, rfl⟩ := hv
                  simp only [Bool.and_eq_true] at d
                  have d1 : a.off + (len + n) * ei.size ≤ b.size := ble_iff.1 d.1.1
                  have d2' := blt_iff.1 d.1.2
                  have d3 := blt_iff.1 d.2
                  rw [EH.set_den _ _ _ (by omega), EB.putAll_den _ _ _ (by show a.off + len * ei.size + new.length < 2 ^ 64; omega)]
                  exact TX.appendIn (P := P) (o := o) (ev := ev) (h := h.den) (new := new.toArray) ho ht h2 c1 z1 c2' hx hs (.inr ⟨hcm', hr'⟩) hm (by rw [EB.den_size]; exact d1) hn' hs2 (by simpa using c4') hall
                · cases he
              · simp only [Option.some.injEq, Prod.mk.injEq] at he
                obtain ⟨rfl, rfl⟩ := he
                exact TX.appendNil ho ht h2 c1 z1 hx hr' hn' hs2
            | false =>
              rw [hr] at he
              simp only [cond_false] at he
              have hr' : cap < len + n := by
                have : ¬ len + n ≤ cap := fun hh => by
                  have := ble_iff.2 hh
                  have e : Nat.ble (Nat.add len n) cap = true := this
                  rw [e] at hr; cases hr
                omega
              split at he
              · rename_i old hold
                obtain ⟨d, hv⟩ := bif_some he
                simp only [Prod.mk.injEq] at hv
                obtain ⟨rfl, rfl⟩ := hv
                have d' : old.length = len * ei.size := Nat.eq_of_beq_eq_true d
                rw [EH.push_den _ _ (by omega), EB.row_den]
                have := TX.appendNew (P := P) (o := o) (ev := ev) (h := h.den) (old := old.toArray) (new := new.toArray) ho ht h2 c1 z1 z2 z3 c3' c2' hx hcm' (evSrc_ok hold) (by simpa using d') hn' hs2 (by simpa using c4') hr' c6' c7'
                rw [← List.append_toArray]
                exact this
              · cases he
          | false =>
            rw [hcm] at he
            simp only [cond_false] at he
            split at he
            · rename_i a
              split at he
              · rename_i b hb
                obtain ⟨hs, hm⟩ := blkAt_some hb
                cases hd : (Nat.beq cap (Nat.add capMark ei.size) && Nat.blt a.block big && Nat.blt (Nat.add b.size (Nat.mul n ei.size)) big) with
                | false => rw [hd] at he; cases he
                | true =>
                  rw [hd] at he
                  simp only [cond_true] at he
                  simp only [Bool.and_eq_true] at hd
                  have d1 : cap = capOf ei.size := Nat.eq_of_beq_eq_true hd.1.1
                  have d2' := blt_iff.1 hd.1.2
                  have d3 : b.size + n * ei.size < big := blt_iff.1 hd.2
                  subst d1
                  cases hr : Nat.ble (Nat.add a.off (Nat.mul (Nat.add len n) ei.size)) b.size with
                  | true =>
                    rw [hr] at he
                    simp only [cond_true, Option.some.injEq, Prod.mk.injEq] at he
                    obtain ⟨rfl, rfl⟩ := he
                    have hr' : a.off + (len + n) * ei.size ≤ b.size := ble_iff.1 hr
                    rw [EH.set_den _ _ _ (by omega), EB.putAll_den _ _ _ (by show a.off + len * ei.size + new.length < 2 ^ 64; omega)]
                    exact TX.appendIn (P := P) (o := o) (ev := ev) (h := h.den) (new := new.toArray) ho ht h2 c1 z1 c2' hx hs (.inl rfl) hm (by rw [EB.den_size]; exact hr') hn' hs2 (by simpa using c4') hall
                  | false =>
                    rw [hr] at he
                    simp only [cond_false] at he
                    obtain ⟨g, hv⟩ := bif_some he
                    simp only [Prod.mk.injEq] at hv
                    obtain ⟨rfl, rfl⟩ := hv
                    simp only [Bool.and_eq_true] at g
                    have g1 : a.off = 0 := Nat.eq_of_beq_eq_true g.1.1
                    have g2 : b.size = len * ei.size := Nat.eq_of_beq_eq_true g.1.2
                    have g3 : b.elem = e := Nat.eq_of_beq_eq_true g.2
                    obtain ⟨ab, ao, asp⟩ := a
                    simp only at g1 hs d2' hm
                    subst g1 hs
                    rw [EH.push_den _ _ (by show h.n + 1 < 2 ^ 64; omega), EH.kill_den _ _ (by show ab + 1 < 2 ^ 64; omega)]
                    have hgd := EB.grow_den b new (by omega)
                    rw [c4'] at hgd
                    have hgd' : (({ b with size := Nat.add b.size (Nat.mul n ei.size) } : EB).putAll b.size new).den = { cells := b.den.cells ++ new.toArray, elem := e } := by rw [← g3]; exact hgd
                    rw [hgd']
                    exact TX.appendGrow (P := P) (o := o) (ev := ev) (h := h.den) (b := b.den) (new := new.toArray) ho ht h2 c1 z1 z2 z3 c3' c2' hx hm g3 (by rw [EB.den_size]; exact g2) hn' hs2 (by simpa using c4') hall c6' c7'
              · cases he
            · cases he
      · cases he
    · cases he
  · cases he
noncomputable def evLenOp (P : Program) (o : Oper) (t : TypeId) (x : Operand) (ev : Operand → Value) (h : EH) : Option (Value × EH) := match ev x, P.underlying t with
  | .slice _ n _, some (.slice _) => some (.int .i64 (Int.ofNat n), h)
  | _, _ => evPure P o ev h
theorem evLenOp_ok {t : TypeId} {x : Operand} {h h' : EH} {v : Value} (ho : o.op = .call { callee := .builtin .len, args := #[x], argTypes := #[t] }) (he : evLenOp P o t x ev h = some (v, h')) : TX P o ev h.den v h'.den := by
  unfold evLenOp at he
  split at he
  · rename_i A n c e hx ht
    simp only [Option.some.injEq, Prod.mk.injEq] at he
    obtain ⟨rfl, rfl⟩ := he
    exact TX.lenSlice ho ht hx
  · exact evPure_ok (fun cs b => by rw [ho]; simp) he
def byteOf? : Value → Option Int
  | .int .u8 n => some n
  | _ => none
def bytesOf? : List Value → Option (List Int)
  | [] => some []
  | v :: vs => match byteOf? v, bytesOf? vs with
    | some n, some ns => some (n :: ns)
    | _, _ => none
theorem bytesOf_ok : ∀ (vs : List Value) (ns : List Int), bytesOf? vs = some ns → vs = ns.map fun n => Value.int .u8 n := by
  intro vs
  induction vs with
  | nil => intro ns h; simp [bytesOf?] at h; subst h; rfl
  | cons v vs ih =>
    intro ns h
    simp only [bytesOf?] at h
    split at h
    · rename_i n ms hn hms
      simp only [Option.some.injEq] at h
      subst h
      have : v = .int .u8 n := by
        unfold byteOf? at hn
        split at hn
        · simp only [Option.some.injEq] at hn; subst hn; rfl
        · cases hn
      rw [this, ih ms hms]; rfl
    · cases h
noncomputable def evConvert (P : Program) (o : Oper) (src dst : TypeId) (x : Operand) (ev : Operand → Value) (h : EH) : Option (Value × EH) := match ev x, P.underlying src, P.underlying dst with
  | .slice (some a) len _, some (.slice e), some .string => match P.underlying e, blkAt h a with
    | some (.int .u8), some b => bif Nat.ble (Nat.add a.off len) b.size then (match bytesOf? (b.seg a.off len) with
      | some ns => some (.string ⟨⟨ns.map fun n => UInt8.ofNat n.toNat⟩⟩, h)
      | none => none) else none
    | _, _ => none
  | _, _, _ => evPure P o ev h
theorem evConvert_ok {src dst : TypeId} {x : Operand} {h h' : EH} {v : Value} (ho : o.op = .convert src dst x) (he : evConvert P o src dst x ev h = some (v, h')) : TX P o ev h.den v h'.den := by
  unfold evConvert at he
  split at he
  · rename_i a len cap e hx hs hd
    split at he
    · rename_i b he' hb
      obtain ⟨hsp, hm⟩ := blkAt_some hb
      cases hn : Nat.ble (Nat.add a.off len) b.size with
      | false => rw [hn] at he; cases he
      | true =>
        rw [hn] at he
        simp only [cond_true] at he
        have hn' : a.off + len ≤ b.size := ble_iff.1 hn
        split at he
        · rename_i ns hns
          simp only [Option.some.injEq, Prod.mk.injEq] at he
          obtain ⟨rfl, rfl⟩ := he
          refine TX.bytesStr ho hs hd he' hx hsp hm (by rw [EB.den_size]; exact hn') ?_
          apply Array.ext'
          rw [← EB.seg_eq b len a.off hn', bytesOf_ok _ _ hns]
        · cases he
    · cases he
  · exact evPure_ok (fun cs b => by rw [ho]; simp) he
noncomputable def evNil (v : Value) (h : EH) : Option (Value × EH) := match v with
  | .pointer (some a) => some (.pointer (some a), h)
  | .func (.func f) p q => some (.func (.func f) p q, h)
  | _ => none
theorem evNil_ok {x : Operand} {h h' : EH} {v : Value} (ho : o.op = .nilCheck x) (he : evNil (ev x) h = some (v, h')) : TX P o ev h.den v h'.den := by
  unfold evNil at he
  split at he
  · rename_i a hx
    simp only [Option.some.injEq, Prod.mk.injEq] at he
    obtain ⟨rfl, rfl⟩ := he
    rw [← hx]; exact TX.nilCheck ho hx
  · rename_i f p q hx
    simp only [Option.some.injEq, Prod.mk.injEq] at he
    obtain ⟨rfl, rfl⟩ := he
    rw [← hx]; exact TX.nilCheckF ho hx
  · cases he
noncomputable def evX (P : Program) (o : Oper) (ev : Operand → Value) (h : EH) : Option (Value × EH) := match o.op with
  | .move x => some (ev x, h)
  | .assign x => some (ev x, h)
  | .pick c x y => match ev c with
    | .bool true => some (ev x, h)
    | .bool false => some (ev y, h)
    | _ => none
  | .alloc t => evAlloc P t h
  | .box t x => evNew t (cellsL (ev x)) h
  | .build t parts => evBuild P t parts ev h
  | .buildSlice t len parts => evBuildSlice P t len parts ev h
  | .load t x => evLoad P t (ev x) h
  | .store t x y => evStore P t (ev x) (ev y) h
  | .nilCheck x => evNil (ev x) h
  | .binOp op t x y _ => evBin P o op t x y ev h
  | .unOp _ _ _ => evPure P o ev h
  | .convert src dst x => evConvert P o src dst x ev h
  | .makeSlice t x y => evMake P t (ev x) (ev y) h
  | .slice t x lo hi mx => evSlice P o t x lo hi mx ev h
  | .fieldAddr t x i => evFieldAddr P t (ev x) i h
  | .field t x i => evField P t (ev x) i h
  | .indexAddr t x y => evIndexAddr P t (ev x) (ev y) h
  | .index _ _ _ => evPure P o ev h
  | .extract x i => evExtract (ev x) i h
  | .makeFunc fn xs ys => some (.func fn (xs.map ev) (ys.map ev), h)
  | .call { callee := .builtin .append, args := ⟨[x, y]⟩, argTypes := ⟨[t, t2]⟩ } => evAppend P t t2 (ev x) (ev y) h
  | .call { callee := .builtin .copy, args := ⟨[x, y]⟩, argTypes := ⟨[t, _]⟩ } => evCopy P t (ev x) (ev y) h
  | .call { callee := .builtin .len, args := ⟨[x]⟩, argTypes := ⟨[t]⟩ } => evLenOp P o t x ev h
  | .call { callee := .builtin .min, args := _, argTypes := _ } => evPure P o ev h
  | .call { callee := .builtin .max, args := _, argTypes := _ } => evPure P o ev h
  | _ => none
theorem evX_ok {h h' : EH} {v : Value} (he : evX P o ev h = some (v, h')) : TX P o ev h.den v h'.den := by
  unfold evX at he
  split at he
  case h_1 x ho => simp only [Option.some.injEq, Prod.mk.injEq] at he; obtain ⟨rfl, rfl⟩ := he; exact TX.move ho
  case h_2 x ho => simp only [Option.some.injEq, Prod.mk.injEq] at he; obtain ⟨rfl, rfl⟩ := he; exact TX.assign ho
  case h_3 c x y ho =>
    split at he
    · rename_i hc; simp only [Option.some.injEq, Prod.mk.injEq] at he; obtain ⟨rfl, rfl⟩ := he; simpa using TX.pick (P := P) (h := h.den) ho hc
    · rename_i hc; simp only [Option.some.injEq, Prod.mk.injEq] at he; obtain ⟨rfl, rfl⟩ := he; simpa using TX.pick (P := P) (h := h.den) ho hc
    · cases he
  case h_4 t ho => exact evAlloc_ok ho he
  case h_5 t x ho => exact evBox_ok ho he
  case h_6 t parts ho => exact evBuild_ok ho he
  case h_7 t len parts ho => exact evBuildSlice_ok ho he
  case h_8 t x ho => exact evLoad_ok ho he
  case h_9 t x y ho => exact evStore_ok ho he
  case h_10 x ho => exact evNil_ok ho he
  case h_11 op t x y _ ho => exact evBin_ok ho he
  case h_12 ho => exact evPure_ok (fun cs b => by rw [ho]; simp) he
  case h_13 src dst x ho => exact evConvert_ok ho he
  case h_14 t x y ho => exact evMake_ok ho he
  case h_15 t x lo hi mx ho => exact evSlice_ok ho he
  case h_16 t x i ho => exact evFieldAddr_ok ho he
  case h_17 t x i ho => exact evField_ok ho he
  case h_18 t x y ho => exact evIndexAddr_ok ho he
  case h_19 ho => exact evPure_ok (fun cs b => by rw [ho]; simp) he
  case h_20 x i ho => exact evExtract_ok ho he
  case h_21 fn xs ys ho => simp only [Option.some.injEq, Prod.mk.injEq] at he; obtain ⟨rfl, rfl⟩ := he; exact TX.makeFunc ho
  case h_22 x y t t2 ho => exact evAppend_ok ho he
  case h_23 x y t _ ho => exact evCopy_ok ho he
  case h_24 x t ho => exact evLenOp_ok ho he
  case h_25 ho => exact evPure_ok (fun cs b => by rw [ho]; simp) he
  case h_26 ho => exact evPure_ok (fun cs b => by rw [ho]; simp) he
  case h_27 => cases he
end Go.AH
namespace Go.AH
variable {P : Program} {o : Oper} {ev : Operand → Value}
structure Chg (h h' : EH) (l : List Nat) : Prop where
  n : h.n ≤ h'.n
  w : h'.w = l ++ h.w
  old : ∀ i, i < h.n → i ∉ l → h'.t.get i = h.t.get i
  none : ∀ i, i < h.n → h.t.get i = none → h'.t.get i = none
theorem Chg.refl (h : EH) : Chg h h [] := ⟨Nat.le_refl _, rfl, fun _ _ _ => rfl, fun _ _ hn => hn⟩
theorem Chg.trans {h h1 h2 : EH} {l l' : List Nat} (c : Chg h h1 l) (c' : Chg h1 h2 l') : Chg h h2 (l' ++ l) :=
  ⟨Nat.le_trans c.n c'.n, by rw [c'.w, c.w, List.append_assoc], fun i hi hl => by
    rw [c'.old i (Nat.lt_of_lt_of_le hi c.n) (fun h => hl (by simp [h])), c.old i hi (fun h => hl (by simp [h]))],
   fun i hi hn => c'.none i (Nat.lt_of_lt_of_le hi c.n) (c.none i hi hn)⟩
theorem Chg.set {h : EH} {i : Nat} {b c : EB} (hb : h.t.get i = some c) (hi : i + 1 < 2 ^ 64) : Chg h (h.set i b) [i] := by
  refine ⟨Nat.le_refl _, rfl, fun j _ hl => ?_, fun j _ hn => ?_⟩
  · simp only [EH.set]; rw [T.get_put _ _ _ _ hi, if_neg (by simpa using hl)]
  · simp only [EH.set]; rw [T.get_put _ _ _ _ hi]
    by_cases e : j = i
    · subst e; rw [hb] at hn; cases hn
    · rw [if_neg e]; exact hn
theorem Chg.push {h : EH} {b : EB} (hi : h.n + 1 < 2 ^ 64) : Chg h (h.push b) [] := by
  refine ⟨Nat.le_succ _, rfl, fun j hj _ => ?_, fun j hj hn => ?_⟩
  · simp only [EH.push]; rw [T.get_put _ _ _ _ hi, if_neg (by omega)]
  · simp only [EH.push]; rw [T.get_put _ _ _ _ hi, if_neg (by omega)]; exact hn
theorem Chg.kill {h : EH} {i : Nat} (hi : i + 1 < 2 ^ 64) : Chg h (h.kill i) [i] := by
  refine ⟨Nat.le_refl _, rfl, fun j _ hl => ?_, fun j _ hn => ?_⟩
  · simp only [EH.kill]; rw [T.get_put _ _ _ _ hi, if_neg (by simpa using hl)]
  · simp only [EH.kill]; rw [T.get_put _ _ _ _ hi]
    by_cases e : j = i
    · subst e; simp
    · rw [if_neg e]; exact hn
theorem bif_or {α : Type} {c : Bool} {x y : Option α} {r : α} (h : (bif c then x else y) = some r) : (c = true ∧ x = some r) ∨ (c = false ∧ y = some r) := by
  cases c
  · exact .inr ⟨rfl, h⟩
  · exact .inl ⟨rfl, h⟩
theorem blkAt_get {h : EH} {a : Addr} {b : EB} (hb : blkAt h a = some b) : h.t.get a.block = some b := by
  unfold blkAt at hb
  cases hs : a.spot with
  | none => rw [hs] at hb; exact hb
  | some _ => rw [hs] at hb; cases hb
theorem evPure_chg {h h' : EH} {v : Value} (he : evPure P o ev h = some (v, h')) : h' = h := by
  unfold evPure at he
  cases hf : o.op.operands.toList.all (fun x => freeB (ev x)) with
  | false => rw [hf] at he; cases he
  | true =>
    rw [hf] at he
    simp only [cond_true] at he
    split at he
    · obtain ⟨_, h2⟩ := bif_some he
      simp only [Prod.mk.injEq] at h2
      exact h2.2.symm
    · cases he
theorem evNew_chg {e : TypeId} {cs : List Value} {h h' : EH} {v : Value} (he : evNew e cs h = some (v, h')) : Chg h h' [] := by
  unfold evNew at he
  obtain ⟨h1, h2⟩ := bif_some he
  simp only [Prod.mk.injEq] at h2
  obtain ⟨rfl, rfl⟩ := h2
  have := blt_iff.1 h1
  have hb := big_lt
  exact Chg.push (by omega)
theorem evX_chg {h h' : EH} {v : Value} (he : evX P o ev h = some (v, h')) : ∃ l, Chg h h' l := by
  have hbg := big_lt
  have same : ∀ {x y : EH}, x = y → ∃ l, Chg y x l := fun e => ⟨[], e ▸ Chg.refl _⟩
  unfold evX at he
  split at he
  case h_1 => simp only [Option.some.injEq, Prod.mk.injEq] at he; exact same he.2.symm
  case h_2 => simp only [Option.some.injEq, Prod.mk.injEq] at he; exact same he.2.symm
  case h_3 => split at he <;> first | (simp only [Option.some.injEq, Prod.mk.injEq] at he; exact same he.2.symm) | cases he
  case h_4 => unfold evAlloc at he; split at he <;> first | exact ⟨_, evNew_chg he⟩ | cases he
  case h_5 => exact ⟨_, evNew_chg he⟩
  case h_6 => unfold evBuild at he; split at he <;> first | (simp only [Option.some.injEq, Prod.mk.injEq] at he; exact same he.2.symm) | cases he
  case h_7 =>
    unfold evBuildSlice at he
    split at he
    · split at he
      · split at he
        · obtain ⟨h1, h2⟩ := bif_some he
          simp only [Prod.mk.injEq] at h2
          simp only [Bool.and_eq_true] at h1
          have := blt_iff.1 h1.2
          exact ⟨_, h2.2 ▸ Chg.push (by omega)⟩
        · cases he
      · cases he
    · cases he
  case h_8 =>
    unfold evLoad at he
    split at he
    · split at he
      · rename_i b d ti _ _ _
        cases hag : aggD d with
        | true =>
          rw [hag] at he
          simp only [cond_true] at he
          obtain ⟨_, h2⟩ := bif_some he
          simp only [Prod.mk.injEq] at h2
          exact same h2.2.symm
        | false =>
          rw [hag] at he
          simp only [cond_false] at he
          obtain ⟨_, h2⟩ := bif_some he
          simp only [Prod.mk.injEq] at h2
          exact same h2.2.symm
      · cases he
    · cases he
  case h_9 =>
    unfold evStore at he
    split at he
    · split at he
      · rename_i b ti hb _
        obtain ⟨h1, h2⟩ := bif_some he
        simp only [Prod.mk.injEq] at h2
        simp only [Bool.and_eq_true] at h1
        have := blt_iff.1 h1.2
        exact ⟨_, h2.2 ▸ Chg.set (blkAt_get hb) (by omega)⟩
      · cases he
    · cases he
  case h_10 => unfold evNil at he; split at he <;> first | (simp only [Option.some.injEq, Prod.mk.injEq] at he; exact same he.2.symm) | cases he
  case h_11 op t x y _ _ =>
    unfold evBin at he
    cases hp : plain2 (ev x) (ev y) with
    | true =>
      rw [hp] at he
      simp only [cond_true] at he
      split at he
      · obtain ⟨_, h2⟩ := bif_some he
        simp only [Prod.mk.injEq] at h2
        exact same h2.2.symm
      · cases he
    | false =>
      rw [hp] at he
      simp only [cond_false] at he
      split at he
      · simp only [Option.some.injEq, Prod.mk.injEq] at he; exact same he.2.symm
      · simp only [Option.some.injEq, Prod.mk.injEq] at he; exact same he.2.symm
      · exact same (evPure_chg he)
  case h_12 => exact same (evPure_chg he)
  case h_13 =>
    unfold evConvert at he
    split at he
    · split at he
      · rename_i b _ _
        cases hn : Nat.ble _ b.size with
        | false => rw [hn] at he; cases he
        | true =>
          rw [hn] at he
          simp only [cond_true] at he
          split at he
          · simp only [Option.some.injEq, Prod.mk.injEq] at he; exact same he.2.symm
          · cases he
      · cases he
    · exact same (evPure_chg he)
  case h_14 =>
    unfold evMake at he
    split at he
    · split at he
      · obtain ⟨h1, h2⟩ := bif_some he
        simp only [Prod.mk.injEq] at h2
        simp only [Bool.and_eq_true] at h1
        have := blt_iff.1 h1.1.2
        exact ⟨_, h2.2 ▸ Chg.push (by omega)⟩
      · cases he
    · cases he
  case h_15 =>
    unfold evSlice at he
    split at he
    · split at he
      · rcases bif_or he with ⟨_, he⟩ | ⟨_, he⟩
        · obtain ⟨_, h2⟩ := bif_some he
          simp only [Prod.mk.injEq] at h2
          exact same h2.2.symm
        · split at he
          · obtain ⟨_, h2⟩ := bif_some he
            simp only [Prod.mk.injEq] at h2
            exact same h2.2.symm
          · cases he
      · cases he
    · split at he
      · simp only [Option.some.injEq, Prod.mk.injEq] at he; exact same he.2.symm
      · cases he
    · exact same (evPure_chg he)
  case h_16 =>
    unfold evFieldAddr at he
    split at he
    · split at he
      · split at he
        · rename_i fi _
          cases hz : Nat.beq fi.size 0 with
          | true => rw [hz] at he; cases he
          | false =>
            rw [hz] at he
            simp only [cond_false, Option.some.injEq, Prod.mk.injEq] at he
            exact same he.2.symm
        · cases he
      · cases he
    · cases he
  case h_17 =>
    unfold evField at he
    split at he
    · split at he
      · split at he
        · rename_i d fi _ _
          cases hag : aggD d with
          | true => rw [hag] at he; simp only [cond_true, Option.some.injEq, Prod.mk.injEq] at he; exact same he.2.symm
          | false =>
            rw [hag] at he
            simp only [cond_false] at he
            split at he
            · simp only [Option.some.injEq, Prod.mk.injEq] at he; exact same he.2.symm
            · cases he
        · cases he
      · cases he
    · cases he
  case h_18 =>
    unfold evIndexAddr at he
    split at he
    · split at he
      · obtain ⟨_, h2⟩ := bif_some he
        simp only [Prod.mk.injEq] at h2
        exact same h2.2.symm
      · cases he
    · split at he
      · obtain ⟨_, h2⟩ := bif_some he
        simp only [Prod.mk.injEq] at h2
        exact same h2.2.symm
      · cases he
    · cases he
  case h_19 => exact same (evPure_chg he)
  case h_20 =>
    unfold evExtract at he
    split at he
    · split at he
      · simp only [Option.some.injEq, Prod.mk.injEq] at he; exact same he.2.symm
      · cases he
    · cases he
  case h_21 => simp only [Option.some.injEq, Prod.mk.injEq] at he; exact same he.2.symm
  case h_22 x y t t2 _ =>
    unfold evAppend at he
    split at he
    · rename_i A len cap e d2 n _ _ _ _
      split at he
      · split at he
        · rcases bif_or he with ⟨hc, he⟩ | ⟨_, he⟩
          · simp only [Bool.and_eq_true] at hc
            have hn := blt_iff.1 hc.2
            rcases bif_or he with ⟨_, he⟩ | ⟨_, he⟩
            · rcases bif_or he with ⟨_, he⟩ | ⟨_, he⟩
              · split at he
                · split at he
                  · rename_i b hb
                    obtain ⟨h1, h2⟩ := bif_some he
                    simp only [Prod.mk.injEq] at h2
                    simp only [Bool.and_eq_true] at h1
                    have := blt_iff.1 h1.2
                    exact ⟨_, h2.2 ▸ Chg.set (blkAt_get hb) (by omega)⟩
                  · cases he
                · simp only [Option.some.injEq, Prod.mk.injEq] at he
                  obtain ⟨_, rfl⟩ := he
                  exact ⟨_, Chg.refl _⟩
              · split at he
                · obtain ⟨h1, h2⟩ := bif_some he
                  simp only [Prod.mk.injEq] at h2
                  exact ⟨_, h2.2 ▸ Chg.push (by omega)⟩
                · cases he
            · split at he
              · split at he
                · rename_i a _ b hb
                  rcases bif_or he with ⟨hd, he⟩ | ⟨_, he⟩
                  · simp only [Bool.and_eq_true] at hd
                    have hab := blt_iff.1 hd.1.2
                    rcases bif_or he with ⟨_, he⟩ | ⟨_, he⟩
                    · simp only [Option.some.injEq, Prod.mk.injEq] at he
                      exact ⟨_, he.2 ▸ Chg.set (blkAt_get hb) (by omega)⟩
                    · obtain ⟨_, h2⟩ := bif_some he
                      simp only [Prod.mk.injEq] at h2
                      exact ⟨_, h2.2 ▸ (Chg.kill (by omega)).trans (Chg.push (by show h.n + 1 < 2 ^ 64; omega))⟩
                  · cases he
                · cases he
              · cases he
          · cases he
        · cases he
      · cases he
    · cases he
  case h_23 =>
    unfold evCopy at he
    split at he
    · split at he
      · rename_i ei b _ hb
        split at he
        · obtain ⟨h1, h2⟩ := bif_some he
          simp only [Prod.mk.injEq] at h2
          simp only [Bool.and_eq_true] at h1
          have := blt_iff.1 h1.2
          exact ⟨_, h2.2 ▸ Chg.set (blkAt_get hb) (by omega)⟩
        · cases he
      · cases he
    · cases he
  case h_24 =>
    unfold evLenOp at he
    split at he
    · simp only [Option.some.injEq, Prod.mk.injEq] at he; exact same he.2.symm
    · exact same (evPure_chg he)
  case h_25 => exact same (evPure_chg he)
  case h_26 => exact same (evPure_chg he)
  case h_27 => cases he
end Go.AH
namespace Go.AH
variable {P : Program} {o : Oper} {ev : Operand → Value}
abbrev CallS := FuncId → Array Value → EH → Option (Value × EH)
structure CallOK (P : Program) (call : CallS) : Prop where
  ok : ∀ g args h v h', call g args h = some (v, h') → TF P g args h.den v h'.den ∧ (∃ l, Chg h h' l) ∧ ∃ fn, P.funcs[g]? = some fn ∧ (fn.name == "runtime.NumGoroutine") = false ∧ fn.body.isNone = false
noncomputable def evO (P : Program) (call : CallS) (o : Oper) (ev : Operand → Value) (h : EH) : Option (Value × EH) := match o.op with
  | .call { callee := .value fx, args := xs, argTypes := _ } => match ev fx with
    | .func (.func g) first captured => call g ⟨(first.toList ++ xs.toList.map ev) ++ captured.toList⟩ h
    | _ => none
  | _ => evX P o ev h
theorem evO_ok {call : CallS} (hc : CallOK P call) {h h' : EH} {v : Value} (he : evO P call o ev h = some (v, h')) : TX P o ev h.den v h'.den ∧ ∃ l, Chg h h' l := by
  unfold evO at he
  split at he
  · rename_i fx xs ts ho
    split at he
    · rename_i g first captured hfx
      obtain ⟨h1, h2, fn, f1, f2, f3⟩ := hc.ok _ _ _ _ _ he
      refine ⟨TX.call ho hfx f1 f2 f3 ?_, h2⟩
      have e : (⟨(first.toList ++ xs.toList.map ev) ++ captured.toList⟩ : Array Value) = (first ++ xs.map ev) ++ captured := by apply Array.ext'; simp
      rwa [e] at h1
    · cases he
  · exact ⟨evX_ok he, evX_chg he⟩
noncomputable def evWanted (ops : Array Oper) (o : Oper) (f : FrS) : Bool := match o.guard with
  | none => true
  | some (j, want) => match ops.toList[j]? with
    | some q => match q.dst with
      | some t => match f.at t with
        | .bool b => (match b, want with | true, true => true | false, false => true | _, _ => false)
        | _ => false
      | none => false
    | none => false
theorem evWanted_ok (ops : Array Oper) (o : Oper) {f : FrS} (ok : f.OK) : Region.wanted o (yielded ops f.den.tmps) = evWanted ops o f := by
  unfold Region.wanted evWanted
  cases o.guard with
  | none => rfl
  | some jw =>
    obtain ⟨j, want⟩ := jw
    simp only [yielded, Array.getElem?_toList]
    cases hj : ops[j]? with
    | none => cases want <;> rfl
    | some q =>
      simp only [Option.bind_some]
      cases hd : q.dst with
      | none => cases want <;> rfl
      | some t =>
        simp only [Option.bind_some]
        have hcase : (f.den.tmps[t]? = some (f.at t)) ∨ (f.den.tmps[t]? = none ∧ f.at t = undef) := by
          simp only [FrS.den, Array.getElem?_map]
          by_cases ht : t < f.nt
          · left; rw [Array.getElem?_eq_getElem (by simpa using ht)]; simp
          · right
            rw [Array.getElem?_eq_none (by simpa using ht)]
            exact ⟨rfl, by simp [FrS.at, ok.out t (Nat.le_of_not_lt ht)]⟩
        rcases hcase with h1 | ⟨h1, h2⟩
        · rw [h1]
          cases f.at t <;> (try (cases want <;> rfl))
          rename_i b
          cases b <;> cases want <;> rfl
        · rw [h1, h2]; cases want <;> rfl
noncomputable def okOpB (G : Nat) : Operand → Bool
  | .const v => freeB v
  | .global g => Nat.blt g G
  | _ => true
theorem okOpB_ok {G : Nat} {x : Operand} (h : okOpB G x = true) : okOp G x := by
  cases x with
  | const v => exact freeB_bnd h
  | global g => exact blt_iff.1 h
  | tmp t => trivial
  | func f => trivial
noncomputable def okOpsB (G : Nat) (ops : Array Oper) : Bool := ops.toList.all fun o => o.op.operands.toList.all (okOpB G)
theorem okOpsB_ok {G : Nat} {ops : Array Oper} (h : okOpsB G ops = true) {i : Nat} {o : Oper} (ho : ops[i]? = some o) : ∀ x ∈ o.op.operands, okOp G x := by
  intro x hx
  have h1 := List.all_eq_true.1 h o (by simpa using Array.mem_of_getElem? ho)
  exact okOpB_ok (List.all_eq_true.1 h1 x (by simpa using hx))
noncomputable def evOps (P : Program) (call : CallS) (ops : Array Oper) (l : List Oper) : FrS → EH → Option (FrS × EH) :=
  List.rec (motive := fun _ => FrS → EH → Option (FrS × EH)) (fun f h => some (f, h))
    (fun o _ ih f h => match evWanted ops o f with
      | true => (match o.op with
        | .defer { callee := .value fx, args := xs, argTypes := _ } => (match f.eval fx with
          | .func (.func g) first captured => ih ({ f with ds := { target := .fn (.func g) captured, args := first ++ xs.map f.eval } :: f.ds }.put o.dst undef) h
          | _ => none)
        | _ => (match evO P call o f.eval h with
          | some (v, h') => ih (f.put o.dst v) h'
          | none => none))
      | false => ih (f.put o.dst undef) h) l
theorem evOps_nil {call : CallS} {ops : Array Oper} (f : FrS) (h : EH) : evOps P call ops [] f h = some (f, h) := rfl
theorem evOps_cons {call : CallS} {ops : Array Oper} (o : Oper) (l : List Oper) (f : FrS) (h : EH) : evOps P call ops (o :: l) f h = match evWanted ops o f with
      | true => (match o.op with
        | .defer { callee := .value fx, args := xs, argTypes := _ } => (match f.eval fx with
          | .func (.func g) first captured => evOps P call ops l ({ f with ds := { target := .fn (.func g) captured, args := first ++ xs.map f.eval } :: f.ds }.put o.dst undef) h
          | _ => none)
        | _ => (match evO P call o f.eval h with
          | some (v, h') => evOps P call ops l (f.put o.dst v) h'
          | none => none))
      | false => evOps P call ops l (f.put o.dst undef) h := rfl
theorem evOps_ok {call : CallS} (hc : CallOK P call) {ops : Array Oper} (hk : okOpsB P.globals.size ops = true) : ∀ (l : List Oper) (k : Nat) (f f' : FrS) (h h' : EH), f.OK → (∀ i o, l[i]? = some o → ops[k + i]? = some o) → evOps P call ops l f h = some (f', h') →
    RunOps P ops ((List.range l.length).map (k + ·)) f.den h.den f'.den h'.den ∧ f'.OK ∧ f'.nt = f.nt ∧ ∃ w, Chg h h' w := by
  intro l
  induction l with
  | nil =>
    intro k f f' h h' ok _ he
    rw [evOps_nil] at he
    simp only [Option.some.injEq, Prod.mk.injEq] at he
    obtain ⟨rfl, rfl⟩ := he
    exact ⟨RunOps.nil _ _, ok, rfl, [], Chg.refl _⟩
  | cons o l ih =>
    intro k f f' h h' ok hl he
    have hput : ∀ (d : Option Tmp) (v : Value), (f.put d v).nt = f.nt := by
      intro d v
      unfold FrS.put
      cases d with
      | none => rfl
      | some d => simp only [forceV_eq]; cases Nat.blt d f.nt <;> simp
    have ho : ops[k]? = some o := by simpa using hl 0 o rfl
    have hl' : ∀ i q, l[i]? = some q → ops[(k + 1) + i]? = some q := by
      intro i q hq
      have := hl (i + 1) q (by simpa using hq)
      rw [show k + 1 + i = k + (i + 1) by omega]; exact this
    have hrange : (List.range (o :: l).length).map (k + ·) = k :: (List.range l.length).map ((k + 1) + ·) := by
      simp only [List.length_cons, List.range_succ_eq_map, List.map_cons, List.map_map]
      congr 1
      refine List.map_congr_left fun i _ => ?_
      simp only [Function.comp_apply]; omega
    rw [hrange]
    rw [evOps_cons] at he
    cases hw : evWanted ops o f with
    | false =>
      rw [hw] at he
      simp only at he
      obtain ⟨hd, ok'⟩ := FrS.put_den ok o.dst undef
      obtain ⟨hr, h2, h3, h4⟩ := ih (k + 1) _ f' h h' ok' hl' he
      rw [hd] at hr
      exact ⟨RunOps.skip ho (by rw [evWanted_ok ops o ok]; exact hw) hr, h2, by rw [h3, hput], h4⟩
    | true =>
      rw [hw] at he
      simp only at he
      split at he
      · rename_i fx xs ts hop
        split at he
        · rename_i g first captured hfx
          have ok1 : ({ f with ds := { target := .fn (.func g) captured, args := first ++ xs.map f.eval } :: f.ds } : FrS).OK := ⟨ok.small, ok.out⟩
          obtain ⟨hd, ok'⟩ := FrS.put_den ok1 o.dst undef
          obtain ⟨hr, h2, h3, h4⟩ := ih (k + 1) _ f' h h' ok' hl' he
          rw [hd] at hr
          refine ⟨RunOps.defer ho (by rw [evWanted_ok ops o ok]; exact hw) (okOpsB_ok hk ho) hop (by rw [FrS.eval_den ok]; exact hfx) ?_, h2, ?_, h4⟩
          · rw [FrS.eval_den ok]; exact hr
          · rw [h3]
            cases hdst : o.dst with
            | none => rfl
            | some d => simp only [FrS.put, forceV_eq]; cases Nat.blt d f.nt <;> simp
        · cases he
      · split at he
        · rename_i v h1 hv
          obtain ⟨ht, l1, hc1⟩ := evO_ok hc hv
          obtain ⟨hd, ok'⟩ := FrS.put_den ok o.dst v
          obtain ⟨hr, h2, h3, l2, hc2⟩ := ih (k + 1) _ f' h1 h' ok' hl' he
          rw [hd] at hr
          exact ⟨RunOps.run ho (by rw [evWanted_ok ops o ok]; exact hw) (okOpsB_ok hk ho) (by rw [FrS.eval_den ok]; exact ht) hr, h2, by rw [h3, hput], _, hc1.trans hc2⟩
        · cases he
end Go.AH
namespace Go.AH
variable {P : Program}
abbrev DrawS := Array Oper → FrS → EH → Option (FrS × EH)
structure DrawOK (P : Program) (dr : DrawS) : Prop where
  ok : ∀ ops f h f' h', f.OK → dr ops f h = some (f', h') → (∀ id, TC P (.region id ops true) f.den h.den .normal f'.den h'.den) ∧ f'.OK ∧ f'.nt = f.nt ∧ ∃ w, Chg h h' w
noncomputable def unblockB (id : Nat) : Exit → Exit
  | .exit i => bif Nat.beq i id then .normal else .exit i
  | e => e
theorem unblockB_eq (id : Nat) (e : Exit) : unblockB id e = unblock id e := by
  cases e <;> simp only [unblockB, unblock]
  rename_i i
  by_cases h : i = id
  · subst h; simp
  · rw [if_neg h]
    cases hb : Nat.beq i id with
    | false => rfl
    | true => exact absurd (Nat.eq_of_beq_eq_true hb) h
noncomputable def loopN (body : FrS → EH → Option (Exit × FrS × EH)) (n : Nat) : FrS → EH → Option (Exit × FrS × EH) :=
  Nat.rec (motive := fun _ => FrS → EH → Option (Exit × FrS × EH)) (fun _ _ => none) (fun _ ih f h => match body f h with
    | some (.normal, f1, h1) => ih f1 h1
    | r => r) n
theorem loopN_succ (body : FrS → EH → Option (Exit × FrS × EH)) (n : Nat) (f : FrS) (h : EH) : loopN body (n + 1) f h = match body f h with
    | some (.normal, f1, h1) => loopN body n f1 h1
    | r => r := rfl
noncomputable def evC (P : Program) (call : CallS) (dr : DrawS) (lf : Nat) (c : Code) : FrS → EH → Option (Exit × FrS × EH) :=
  Code.rec (motive := fun _ => FrS → EH → Option (Exit × FrS × EH))
    (fun f h => some (.normal, f, h))
    (fun _ ops draw f h => match draw with
      | true => (match dr ops f h with
        | some (f', h') => some (.normal, f', h')
        | none => none)
      | false => bif okOpsB P.globals.size ops then (match evOps P call ops ops.toList f h with
        | some (f', h') => some (.normal, f', h')
        | none => none) else none)
    (fun _ _ ea eb f h => match ea f h with
      | some (.normal, f1, h1) => eb f1 h1
      | r => r)
    (fun c _ _ ea eb f h => bif okOpB P.globals.size c then (match f.eval c with
      | .bool true => ea f h
      | .bool false => eb f h
      | _ => none) else none)
    (fun id _ eb f h => match eb f h with
      | some (e, f1, h1) => some (unblockB id e, f1, h1)
      | none => none)
    (fun _ eb f h => loopN eb lf f h)
    (fun _ _ _ _ _ _ _ _ => none)
    (fun id f h => some (.exit id, f, h))
    (fun _ _ _ _ => none)
    (fun _ f h => some (.normal, f, h))
    (fun _ _ _ => none)
    (fun f h => some (.ret, f, h))
    (fun _ _ _ => none) c
def Exit.fine : Exit → Prop
  | .normal | .exit _ | .ret => True
  | _ => False
theorem evC_ok {call : CallS} (hc : CallOK P call) {dr : DrawS} (hd : DrawOK P dr) {lf : Nat} : ∀ (c : Code) (f f' : FrS) (h h' : EH) (e : Exit), f.OK → evC P call dr lf c f h = some (e, f', h') →
    TC P c f.den h.den e f'.den h'.den ∧ f'.OK ∧ f'.nt = f.nt ∧ (∃ w, Chg h h' w) ∧ Exit.fine e := by
  intro c
  induction c with
  | skip =>
    intro f f' h h' e ok he
    simp only [evC, Option.some.injEq, Prod.mk.injEq] at he
    obtain ⟨rfl, rfl, rfl⟩ := he
    exact ⟨TC.skip _ _, ok, rfl, ⟨_, Chg.refl _⟩, trivial⟩
  | region id ops draw =>
    intro f f' h h' e ok he
    cases draw with
    | true =>
      have he' : (match dr ops f h with | some (f', h') => some (Exit.normal, f', h') | none => none) = some (e, f', h') := he
      split at he'
      · rename_i f1 h1 hdr
        simp only [Option.some.injEq, Prod.mk.injEq] at he'
        obtain ⟨rfl, rfl, rfl⟩ := he'
        obtain ⟨a1, a2, a3, a4⟩ := hd.ok _ _ _ _ _ ok hdr
        exact ⟨a1 id, a2, a3, a4, trivial⟩
      · cases he'
    | false =>
      have he' : (bif okOpsB P.globals.size ops then (match evOps P call ops ops.toList f h with | some (f', h') => some (Exit.normal, f', h') | none => none) else none) = some (e, f', h') := he
      rcases bif_or he' with ⟨hk, he'⟩ | ⟨_, he'⟩
      · split at he'
        · rename_i f1 h1 hev
          simp only [Option.some.injEq, Prod.mk.injEq] at he'
          obtain ⟨rfl, rfl, rfl⟩ := he'
          obtain ⟨a1, a2, a3, a4⟩ := evOps_ok hc hk ops.toList 0 _ _ _ _ ok (fun i o ho => by simpa using ho) hev
          refine ⟨RunOps.region ?_, a2, a3, a4, trivial⟩
          have e1 : (List.range ops.toList.length).map (0 + ·) = List.range ops.size := by simp
          rwa [e1] at a1
        · cases he'
      · cases he'
  | seq x y ihx ihy =>
    intro f f' h h' e ok he
    have he' : (match evC P call dr lf x f h with | some (.normal, f1, h1) => evC P call dr lf y f1 h1 | r => r) = some (e, f', h') := he
    split at he'
    · rename_i f1 h1 hx
      obtain ⟨a1, a2, a3, ⟨w1, a4⟩, _⟩ := ihx _ _ _ _ _ ok hx
      obtain ⟨b1, b2, b3, ⟨w2, b4⟩, b5⟩ := ihy _ _ _ _ _ a2 he'
      exact ⟨TC.seq a1 b1, b2, b3.trans a3, ⟨_, a4.trans b4⟩, b5⟩
    · rename_i r hr
      obtain ⟨a1, a2, a3, a4, a5⟩ := ihx _ _ _ _ _ ok he'
      refine ⟨TC.seq_out a1 (fun hn => ?_), a2, a3, a4, a5⟩
      subst hn
      exact hr _ _ he'
  | cond c x y ihx ihy =>
    intro f f' h h' e ok he
    have he' : (bif okOpB P.globals.size c then (match f.eval c with | .bool true => evC P call dr lf x f h | .bool false => evC P call dr lf y f h | _ => none) else none) = some (e, f', h') := he
    rcases bif_or he' with ⟨hk, he'⟩ | ⟨_, he'⟩
    · split at he'
      · rename_i hc'
        obtain ⟨a1, a2, a3, a4, a5⟩ := ihx _ _ _ _ _ ok he'
        exact ⟨TC.cond (t := true) (okOpB_ok hk) (by rw [FrS.eval_den ok]; exact hc') a1, a2, a3, a4, a5⟩
      · rename_i hc'
        obtain ⟨a1, a2, a3, a4, a5⟩ := ihy _ _ _ _ _ ok he'
        exact ⟨TC.cond (t := false) (okOpB_ok hk) (by rw [FrS.eval_den ok]; exact hc') a1, a2, a3, a4, a5⟩
      · cases he'
    · cases he'
  | block id b ih =>
    intro f f' h h' e ok he
    have he' : (match evC P call dr lf b f h with | some (e, f1, h1) => some (unblockB id e, f1, h1) | none => none) = some (e, f', h') := he
    split at he'
    · rename_i e1 f1 h1 hb
      simp only [Option.some.injEq, Prod.mk.injEq] at he'
      obtain ⟨rfl, rfl, rfl⟩ := he'
      obtain ⟨a1, a2, a3, a4, a5⟩ := ih _ _ _ _ _ ok hb
      rw [unblockB_eq]
      refine ⟨TC.block a1, a2, a3, a4, ?_⟩
      cases e1 <;> simp only [unblock] at a5 ⊢ <;> (try exact a5)
      rename_i i
      by_cases hi : i = id
      · rw [if_pos hi]; trivial
      · rw [if_neg hi]; trivial
    · cases he'
  | loop b ih =>
    intro f f' h h' e ok he
    have he' : loopN (evC P call dr lf b) lf f h = some (e, f', h') := he
    have key : ∀ (n : Nat) (f f' : FrS) (h h' : EH) (e : Exit), f.OK → loopN (evC P call dr lf b) n f h = some (e, f', h') → TR P n b f.den h.den e f'.den h'.den ∧ f'.OK ∧ f'.nt = f.nt ∧ (∃ w, Chg h h' w) ∧ Exit.fine e := by
      intro n
      induction n with
      | zero => intro f f' h h' e _ he; cases he
      | succ n ihn =>
        intro f f' h h' e ok he
        rw [loopN_succ] at he
        split at he
        · rename_i f1 h1 hb
          obtain ⟨a1, a2, a3, ⟨w1, a4⟩, _⟩ := ih _ _ _ _ _ ok hb
          obtain ⟨b1, b2, b3, ⟨w2, b4⟩, b5⟩ := ihn _ _ _ _ _ a2 he
          exact ⟨TR.next a1 b1, b2, b3.trans a3, ⟨_, a4.trans b4⟩, b5⟩
        · rename_i r hr
          obtain ⟨a1, a2, a3, a4, a5⟩ := ih _ _ _ _ _ ok he
          refine ⟨TR.out a1 (fun hn => ?_), a2, a3, a4, a5⟩
          subst hn
          exact hr _ _ he
    obtain ⟨a1, a2, a3, a4, a5⟩ := key lf f f' h h' e ok he'
    exact ⟨a1.loop, a2, a3, a4, a5⟩
  | rangeFunc f' ps a b iha ihb => intro f f' h h' e ok he; cases he
  | exit id =>
    intro f f' h h' e ok he
    simp only [evC, Option.some.injEq, Prod.mk.injEq] at he
    obtain ⟨rfl, rfl, rfl⟩ := he
    exact ⟨TC.exit _ _ _, ok, rfl, ⟨_, Chg.refl _⟩, trivial⟩
  | scope b ih => intro f f' h h' e ok he; cases he
  | label l =>
    intro f f' h h' e ok he
    simp only [evC, Option.some.injEq, Prod.mk.injEq] at he
    obtain ⟨rfl, rfl, rfl⟩ := he
    exact ⟨TC.label _ _ _, ok, rfl, ⟨_, Chg.refl _⟩, trivial⟩
  | goto l => intro f f' h h' e ok he; cases he
  | ret =>
    intro f f' h h' e ok he
    simp only [evC, Option.some.injEq, Prod.mk.injEq] at he
    obtain ⟨rfl, rfl, rfl⟩ := he
    exact ⟨TC.ret _ _, ok, rfl, ⟨_, Chg.refl _⟩, trivial⟩
  | refuse w => intro f f' h h' e ok he; cases he
end Go.AH
namespace Go.AH
variable {P : Program}
noncomputable def fillT (l : List Value) : Nat → T Value → T Value :=
  List.rec (motive := fun _ => Nat → T Value → T Value) (fun _ t => t) (fun v _ ih i t => ih (Nat.succ i) (t.put i (some v))) l
theorem fillT_get : ∀ (l : List Value) (i : Nat) (t : T Value) (j : Nat), i + l.length < 2 ^ 64 → (fillT l i t).get j = if i ≤ j ∧ j < i + l.length then l[j - i]? else t.get j := by
  intro l
  induction l with
  | nil => intro i t j _; show t.get j = _; rw [if_neg (by simp)]
  | cons v l ih =>
    intro i t j hi
    simp only [List.length_cons] at hi
    show (fillT l (i + 1) (t.put i (some v))).get j = _
    rw [ih _ _ _ (by omega), T.get_put _ _ _ _ (by omega)]
    by_cases h1 : i + 1 ≤ j ∧ j < i + 1 + l.length
    · rw [if_pos h1, if_pos (by simp only [List.length_cons]; omega)]
      have : j - i = (j - (i + 1)) + 1 := by omega
      rw [this, List.getElem?_cons_succ]
    · rw [if_neg h1]
      by_cases h2 : j = i
      · subst h2; rw [if_pos rfl, if_pos (by simp)]; simp
      · rw [if_neg h2, if_neg (by simp only [List.length_cons]; omega)]
noncomputable def enterFS (fn : Func) (args : List Value) : FrS := { t := fillT args 0 .leaf, nt := fn.ntmps, ds := [] }
theorem enterFS_ok {fn : Func} {args : List Value} (h1 : args.length ≤ fn.ntmps) (h2 : fn.ntmps < big) : (enterFS fn args).OK ∧ (enterFS fn args).den = enterAct fn args.toArray := by
  have hb := big_lt
  have hg : ∀ j, (fillT args 0 .leaf).get j = args[j]? := by
    intro j
    rw [fillT_get _ _ _ _ (by omega), T.get_leaf]
    by_cases hj : j < args.length
    · rw [if_pos (by omega)]; simp
    · rw [if_neg (by omega), List.getElem?_eq_none (by omega)]
  refine ⟨⟨?_, fun i hi => ?_⟩, ?_⟩
  · show fn.ntmps < 2 ^ 63; omega
  · show (fillT args 0 .leaf).get i = none
    rw [hg]; exact List.getElem?_eq_none (by have : fn.ntmps ≤ i := hi; omega)
  · unfold FrS.den enterAct
    congr 1
    apply Array.ext'
    apply List.ext_getElem?
    intro j
    simp only [Array.toList_map, Array.toList_append, List.getElem?_map, Array.toList_replicate, List.size_toArray]
    by_cases hj : j < fn.ntmps
    · rw [Array.getElem?_toList, Array.getElem?_eq_getElem (by simpa [enterFS] using hj)]
      simp only [Array.getElem_range, Option.map_some]
      have hat : (enterFS fn args).at j = (args[j]?).getD undef := by
        show (match (fillT args 0 .leaf).get j with | some v => v | none => undef) = _
        rw [hg]; cases args[j]? <;> rfl
      rw [hat]
      by_cases hj2 : j < args.length
      · rw [List.getElem?_append_left hj2, List.getElem?_eq_getElem hj2]; rfl
      · rw [List.getElem?_append_right (Nat.le_of_not_lt hj2), List.getElem?_eq_none (l := args) (by omega)]
        simp only [Option.getD_none]
        rw [List.getElem?_replicate, if_pos (by omega)]
    · rw [Array.getElem?_toList, Array.getElem?_eq_none (by simpa [enterFS] using hj), List.getElem?_eq_none (by simp; omega)]; rfl
theorem evLoad_run {t : TypeId} {p : Value} {h h' : EH} {v : Value} (he : evLoad P t p h = some (v, h')) : ∃ a, p = .pointer (some a) ∧ ∀ G ρ W, HOK G h.den ρ W → (loadVar t (renAddr ρ a)).run P W = .ok (ren ρ v) W ∧ bnd h.den.n v := by
  unfold evLoad at he
  split at he
  · rename_i a
    refine ⟨a, rfl, fun G ρ W hok => ?_⟩
    split at he
    · rename_i b d ti hb hd hi
      obtain ⟨hs, hm⟩ := blkAt_some hb
      cases hag : aggD d with
      | true =>
        rw [hag] at he
        simp only [cond_true] at he
        obtain ⟨hn, h2⟩ := bif_some he
        simp only [Prod.mk.injEq] at h2
        obtain ⟨rfl, rfl⟩ := h2
        have hn' : a.off + ti.size ≤ b.size := ble_iff.1 hn
        have e : (⟨b.seg a.off ti.size⟩ : Array Value) = b.den.cells.extract a.off (a.off + ti.size) := by apply Array.ext'; exact EB.seg_eq b ti.size a.off hn'
        rw [e]
        refine ⟨?_, by rw [bnd_agg]; exact fun v hv => hok.bd _ _ hm v (mem_ext hv)⟩
        simp [loadVar, rA hd, hag, rS hi, run_loadN hok hm hs (by rw [EB.den_size]; exact hn')]
      | false =>
        rw [hag] at he
        simp only [cond_false] at he
        obtain ⟨hn, h2⟩ := bif_some he
        simp only [Prod.mk.injEq] at h2
        obtain ⟨rfl, rfl⟩ := h2
        have hg := EB.den_get (blt_iff.1 hn)
        refine ⟨?_, hok.bd _ _ hm _ (Array.mem_of_getElem? hg)⟩
        have hc := hok.cell hm hs hg
        simp [loadVar, rA hd, hag, hc]
    · cases he
  · cases he
noncomputable def resOne (P : Program) (f : FrS) (h : EH) : ResultVar → Option Value
  | .tmp t => some (f.at t)
  | .cell a t => match evLoad P t (f.at a) h with
    | some (v, _) => some v
    | none => none
noncomputable def resAll (P : Program) (f : FrS) (h : EH) : List ResultVar → Option (List Value)
  | [] => some []
  | r :: rs => match resOne P f h r, resAll P f h rs with
    | some v, some vs => some (v :: vs)
    | _, _ => none
noncomputable def evRes (P : Program) (fn : Func) (f : FrS) (h : EH) : Option Value := match resAll P f h fn.results.toList with
  | some [v] => some v
  | some vs => some (.tuple ⟨vs⟩)
  | none => none
theorem at_den {f : FrS} (ok : f.OK) (t : Nat) : f.den.tmps.getD t undef = f.at t := by
  have := congrFun (FrS.eval_den ok) (.tmp t)
  exact this
theorem ren_getD (ρ : Env) (a : Act) (t : Nat) : (renA ρ a).tmps.getD t undef = ren ρ (a.tmps.getD t undef) := by
  simp only [renA, Array.getD_eq_getD_getElem?, Array.getElem?_map]; cases a.tmps[t]? <;> simp
def resF (tmps : Array Value) : ResultVar → Sem Value
  | .tmp t => Pure.pure (tmps.getD t undef)
  | .cell a t => do loadVar t (← asAddr (tmps.getD a undef))
theorem results_eq (fn : Func) (tmps : Array Value) : results fn tmps = (do let vs ← fn.results.mapM (resF tmps); Pure.pure (if h : vs.size = 1 then vs[0] else .tuple vs)) := by
  unfold results
  congr 1
theorem resAll_run {f : FrS} (ok : f.OK) {h : EH} : ∀ (rs : List ResultVar) (vs : List Value), resAll P f h rs = some vs → ∀ ρ W, HOK P.globals.size h.den ρ W →
    (rs.mapM (resF (renA ρ f.den).tmps)).run P W = .ok (vs.map (ren ρ)) W ∧ (bndA h.den.n f.den → ∀ v ∈ vs, bnd h.den.n v) := by
  intro rs
  induction rs with
  | nil => intro vs hv ρ W hok; simp [resAll] at hv; subst hv; simp
  | cons r rs ih =>
    intro vs hv ρ W hok
    simp only [resAll] at hv
    split at hv
    · rename_i v us hr hrs
      simp only [Option.some.injEq] at hv
      subst hv
      obtain ⟨h1, h2⟩ := ih us hrs ρ W hok
      rw [List.mapM_cons]
      cases r with
      | tmp t =>
        simp only [resOne, Option.some.injEq] at hr
        subst hr
        refine ⟨?_, fun hb u hu => ?_⟩
        · have hq : (resF (renA ρ f.den).tmps (.tmp t)).run P W = .ok (ren ρ (f.at t)) W := by simp only [resF, Sem.run_pure, ren_getD, at_den ok]
          simp only [Sem.run_bind, hq, Result.andThen_ok, h1, Sem.run_pure, List.map_cons]
        · rcases List.mem_cons.1 hu with rfl | hu
          · rw [← at_den ok]
            exact eval_bnd hok.gle hb (.tmp t) trivial
          · exact h2 hb u hu
      | cell a t =>
        simp only [resOne] at hr
        split at hr
        · rename_i v' h' hl
          simp only [Option.some.injEq] at hr
          subst hr
          obtain ⟨ad, ha, hrun⟩ := evLoad_run hl
          obtain ⟨hr1, hr2⟩ := hrun _ ρ W hok
          refine ⟨?_, fun hb u hu => ?_⟩
          · have hq : (resF (renA ρ f.den).tmps (.cell a t)).run P W = .ok (ren ρ v') W := by simp only [resF, Sem.run_bind, ren_getD, at_den ok, ha, ren_ptr, asAddr, Sem.run_pure, Result.andThen_ok, hr1]
            simp only [Sem.run_bind, hq, Result.andThen_ok, h1, Sem.run_pure, List.map_cons]
          · rcases List.mem_cons.1 hu with rfl | hu
            · exact hr2
            · exact h2 hb u hu
        · cases hr
    · cases hv
theorem evRes_ok {fn : Func} {f : FrS} (ok : f.OK) {h : EH} {v : Value} (he : evRes P fn f h = some v) : ResIs P fn f.den h.den v ∧ (∀ ρ W, HOK P.globals.size h.den ρ W → bndA h.den.n f.den → bnd h.den.n v) := by
  unfold evRes at he
  have key : ∀ vs, resAll P f h fn.results.toList = some vs → v = (match vs with | [v] => v | vs => .tuple ⟨vs⟩) → ResIs P fn f.den h.den v ∧ (∀ ρ W, HOK P.globals.size h.den ρ W → bndA h.den.n f.den → bnd h.den.n v) := by
    intro vs hvs hv
    refine ⟨fun ρ W hok => ?_, fun ρ W hok hb => ?_⟩
    · obtain ⟨h1, _⟩ := resAll_run ok _ _ hvs ρ W hok
      rw [results_eq, Array.mapM_eq_mapM_toList]
      have h3 : (Functor.map (fun l => List.toArray l) (fn.results.toList.mapM (resF (renA ρ f.den).tmps))).run P W = .ok (vs.map (ren ρ)).toArray W := by
        rw [map_eq_pure_bind, Sem.run_bind, h1]; rfl
      rw [Sem.run_bind, h3]
      simp only [Result.andThen_ok, Sem.run_pure]
      congr 1
      subst hv
      cases vs with
      | nil => simp
      | cons u us =>
        cases us with
        | nil => simp
        | cons u2 us => simp
    · obtain ⟨_, h2⟩ := resAll_run ok _ _ hvs ρ W hok
      have := h2 hb
      subst hv
      split
      · exact this _ (by simp)
      · rw [bnd_tuple]; intro u hu; exact this u (by simpa using hu)
  split at he
  · rename_i u hu; simp only [Option.some.injEq] at he; exact key _ hu he.symm
  · rename_i vs hne hvs
    simp only [Option.some.injEq] at he
    refine key _ hvs ?_
    rw [← he]
    split
    · rename_i u; exact absurd rfl (hne u)
    · rfl
  · cases he
theorem TF.trunc {f : FuncId} {args : Array Value} {h h' : Hp} {v : Value} (ht : TF P f args h v h') (hv : bnd h.n v) (hs : ∀ i, i < h.n → h'.m i = h.m i) : TF P f args h v h := by
  intro ha ρ W hok
  refine (ht ha ρ W hok).mono ?_
  rintro e W' ⟨ρ', rfl, _, hok', hE⟩
  have key : ∀ i b, h.m i = some b → h'.m i = some b := fun i b hb => by rw [hs i (hok.lt _ _ hb)]; exact hb
  refine ⟨ρ', rfl, hv, ⟨fun i b hb => hok'.fits _ _ (key i b hb), fun i b hb => hok.lt _ _ hb, fun i j b c hb hc hl => hok'.inj _ _ _ _ (key i b hb) (key j c hc) hl, fun i b hb => hok.bd _ _ hb, hok'.glob, hok.gle⟩,
    ⟨hE.agree, Nat.le_refl _, hE.kept, hE.size, fun i b hb hl => hE.own i b (key i b hb) hl, hE.tape, hE.os, hE.output, fun i b hin hb => hE.surv i b hin (key i b hb)⟩⟩
noncomputable def evBody (P : Program) (call : CallS) (dr : DrawS) (lf : Nat) (fn : Func) (args : List Value) (h : EH) : Option (Value × EH) := match fn.body with
  | some c => bif Nat.ble args.length fn.ntmps && Nat.blt fn.ntmps big then (match evC P call dr lf c (enterFS fn args) { h with w := [] } with
    | some (e, f, h') => (match e, f.ds with
      | .ret, [] | .normal, [] => (match evRes P fn f h' with
        | some v => bif freeB v && h'.w.all (fun i => Nat.ble h.n i) then some (v, h) else some (v, { h' with w := h'.w ++ h.w })
        | none => none)
      | _, _ => none)
    | none => none) else none
  | none => none
theorem den_w (h : EH) (l : List Nat) : ({ h with w := l } : EH).den = h.den := rfl
theorem evBody_ok {call : CallS} (hc : CallOK P call) {dr : DrawS} (hd : DrawOK P dr) {lf : Nat} {g : FuncId} {fn : Func} (hf : P.funcs[g]? = some fn) {args : List Value} {h h' : EH} {v : Value} (he : evBody P call dr lf fn args h = some (v, h')) :
    TF P g args.toArray h.den v h'.den ∧ ∃ l, Chg h h' l := by
  unfold evBody at he
  split at he
  · rename_i c hb
    rcases bif_or he with ⟨hcc, he⟩ | ⟨_, he⟩
    · simp only [Bool.and_eq_true] at hcc
      obtain ⟨ok0, hden⟩ := enterFS_ok (ble_iff.1 hcc.1) (blt_iff.1 hcc.2)
      split at he
      · rename_i e f h1 hev
        obtain ⟨t1, ok1, _, ⟨w1, c1⟩, hfine⟩ := evC_ok hc hd _ _ _ _ _ _ ok0 hev
        clear hfine
        rw [hden, den_w] at t1
        have fin : ∀ (u : Value), evRes P fn f h1 = some u → (e = .ret ∨ e = .normal) → f.ds = [] → (bif freeB u && h1.w.all (fun i => Nat.ble h.n i) then some (u, h) else some (u, { h1 with w := h1.w ++ h.w })) = some (v, h') → TF P g args.toArray h.den v h'.den ∧ ∃ l, Chg h h' l := by
          intro u hu hex hds he
          obtain ⟨r1, r2⟩ := evRes_ok ok1 hu
          have htf : TF P g args.toArray h.den u h1.den := by
            intro ha ρ W hok
            refine calls_of_wp hf hb ?_
            rw [← enterAct_ren]
            refine wp_mono (t1 (enterAct_bnd ha) ρ W hok) ?_
            rintro e' A W' ⟨rfl, ρ', rfl, hb', hok', hE⟩
            have hdd : (renA ρ' f.den).defers = [] := by simp [renA, FrS.den, hds]
            rcases hex with rfl | rfl
            · exact ⟨hdd, _, r1 ρ' W' hok', ρ', rfl, r2 ρ' W' hok' hb', hok', hE⟩
            · exact ⟨hdd, _, r1 ρ' W' hok', ρ', rfl, r2 ρ' W' hok' hb', hok', hE⟩
          have hw : h1.w = w1 := by have := c1.w; simpa using this
          cases hfr : (freeB u && h1.w.all (fun i => Nat.ble h.n i)) with
          | true =>
            rw [hfr] at he
            simp only [cond_true, Option.some.injEq, Prod.mk.injEq] at he
            obtain ⟨rfl, rfl⟩ := he
            simp only [Bool.and_eq_true] at hfr
            refine ⟨htf.trunc (bnd_mono (Nat.zero_le _) _ (freeB_bnd hfr.1)) (fun i hi => ?_), [], Chg.refl _⟩
            have hni : i ∉ w1 := by
              intro hm
              have := ble_iff.1 (List.all_eq_true.1 hfr.2 i (by rw [hw]; exact hm))
              have hi' : i < h.n := hi
              omega
            simp only [EH.den]
            rw [c1.old i hi hni]
          | false =>
            rw [hfr] at he
            simp only [cond_false, Option.some.injEq, Prod.mk.injEq] at he
            obtain ⟨rfl, rfl⟩ := he
            exact ⟨htf, w1, ⟨c1.n, by simp [hw], c1.old, c1.none⟩⟩
        split at he
        · rename_i hds
          split at he
          · rename_i u hu; exact fin u hu (.inl rfl) hds he
          · cases he
        · rename_i hds
          split at he
          · rename_i u hu; exact fin u hu (.inr rfl) hds he
          · cases he
        · cases he
      · cases he
    · cases he
  · cases he
structure HookOK (P : Program) (hook : FuncId → Option CallS) : Prop where
  ok : ∀ g c, hook g = some c → ∀ args h v h', c g args h = some (v, h') → TF P g args h.den v h'.den ∧ (∃ l, Chg h h' l) ∧ ∃ fn, P.funcs[g]? = some fn ∧ (fn.name == "runtime.NumGoroutine") = false ∧ fn.body.isNone = false
noncomputable def evF (P : Program) (hook : FuncId → Option CallS) (dr : CallS → DrawS) (lf : Nat) (d : Nat) : CallS :=
  Nat.rec (motive := fun _ => CallS) (fun _ _ _ => none) (fun _ call g args h => match hook g with
    | some c => c g args h
    | none => (match P.funcs[g]? with
      | some fn => bif fn.name == "runtime.NumGoroutine" then none else evBody P call (dr call) lf fn args.toList h
      | none => none)) d
theorem evF_ok {hook : FuncId → Option CallS} (hh : HookOK P hook) {dr : CallS → DrawS} (hd : ∀ call, CallOK P call → DrawOK P (dr call)) {lf : Nat} : ∀ d, CallOK P (evF P hook dr lf d) := by
  intro d
  induction d with
  | zero => exact ⟨fun _ _ _ _ _ he => by cases he⟩
  | succ d ih =>
    refine ⟨fun g args h v h' he => ?_⟩
    have he' : (match hook g with
      | some c => c g args h
      | none => (match P.funcs[g]? with
        | some fn => bif fn.name == "runtime.NumGoroutine" then none else evBody P (evF P hook dr lf d) (dr (evF P hook dr lf d)) lf fn args.toList h
        | none => none)) = some (v, h') := he
    split at he'
    · rename_i c hc; exact hh.ok g c hc args h v h' he'
    · split at he'
      · rename_i fn hf
        rcases bif_or he' with ⟨_, he'⟩ | ⟨hn, he'⟩
        · cases he'
        · obtain ⟨h1, h2⟩ := evBody_ok ih (hd _ ih) hf he'
          rw [Array.toArray_toList] at h1
          refine ⟨h1, h2, fn, hf, hn, ?_⟩
          unfold evBody at he'
          cases hb : fn.body with
          | none => rw [hb] at he'; cases he'
          | some c => rfl
      · cases he'
end Go.AH
namespace Go.AH
variable {P : Program} {ops : Array Oper}
structure Inf where
  o : Oper
  a : Act
  h : Hp
  v : Value
  h' : Hp
  hid : Nat → Bool
  eff : Nat → Bool
structure Inf.OK (P : Program) (ops : Array Oper) (x : Inf) : Prop where
  step : (Region.wanted x.o (yielded ops x.a.tmps) = false ∧ x.v = undef ∧ x.h' = x.h) ∨
    (Region.wanted x.o (yielded ops x.a.tmps) = true ∧ (∀ y ∈ x.o.op.operands, okOp P.globals.size y) ∧ TX P x.o x.a.eval (x.h.hide x.hid) x.v (x.h'.hide x.hid))
  mono : x.h.n ≤ x.h'.n
  fresh : ∀ id, id < x.h.n → x.h.m id = none → x.h'.m id = none
  effs : ∀ id, x.eff id = false → x.h'.m id = x.h.m id
  ehid : ∀ id, x.eff id = true → x.hid id = false
def inR (x : Inf) (id : Nat) : Prop := x.h.n ≤ id ∧ id < x.h'.n
structure PairOK (ops : Array Oper) (x y : Inf) : Prop where
  cross : ∀ id, x.eff id = true → y.hid id = true
  slots : ∀ t, x.o.dst = some t → (∀ z ∈ y.o.op.operands, z ≠ .tmp t) ∧ y.o.dst ≠ some t ∧ ∀ g w, y.o.guard = some (g, w) → dstOf ops g ≠ some t
  val : ment (fun id => ¬ inR y id) x.v
  cells : ∀ id b, x.eff id = true → x.h'.m id = some b → ∀ v ∈ b.cells, ment (fun id => ¬ inR y id) v
def chainI : List Inf → Act → Hp → Act → Hp → Prop
  | [], a, h, a', h' => a = a' ∧ h = h'
  | x :: l, a, h, a', h' => x.a = a ∧ x.h = h ∧ chainI l (a.put x.o.dst x.v) x.h' a' h'
def planOf (l : List Inf) (aEnd : Act) (hEnd : Hp) : Plan where
  a j := match l[j]? with | some x => x.a | none => aEnd
  h j := match l[j]? with | some x => x.h | none => hEnd
  v j := match l[j]? with | some x => x.v | none => undef
  hid j := match l[j]? with | some x => x.hid | none => fun _ => false
  eff j := match l[j]? with | some x => x.eff | none => fun _ => false
theorem chain_next : ∀ {l : List Inf} {a a' : Act} {h h' : Hp} (_ : chainI l a h a' h') {j : Nat} {x : Inf} (_ : l[j]? = some x),
    (planOf l a' h').a (j + 1) = x.a.put x.o.dst x.v ∧ (planOf l a' h').h (j + 1) = x.h' := by
  intro l
  induction l with
  | nil => intro a a' h h' _ j x hx; simp at hx
  | cons y l ih =>
    intro a a' h h' hc j x hx
    obtain ⟨h1, h2, h3⟩ := hc
    cases j with
    | zero =>
      simp only [List.getElem?_cons_zero, Option.some.injEq] at hx
      subst hx
      cases l with
      | nil => obtain ⟨h4, h5⟩ := h3; simp [planOf, h4, h5, h1]
      | cons z l => obtain ⟨h4, h5, _⟩ := h3; simp [planOf, h4, h5, h1]
    | succ j =>
      simp only [List.getElem?_cons_succ] at hx
      have := ih h3 hx
      simpa [planOf] using this
theorem chain_first {l : List Inf} {a a' : Act} {h h' : Hp} (hc : chainI l a h a' h') : (planOf l a' h').a 0 = a ∧ (planOf l a' h').h 0 = h := by
  cases l with
  | nil => obtain ⟨h1, h2⟩ := hc; simp [planOf, h1, h2]
  | cons x l => obtain ⟨h1, h2, _⟩ := hc; simp [planOf, h1, h2]
theorem plan_ok {l : List Inf} {a a' : Act} {h h' : Hp} (hc : chainI l a h a' h') (hl : l.map (·.o) = ops.toList) (back : ∀ j i, Dep ops j i → i < j) (ok : ∀ x ∈ l, x.OK P ops)
    (pair : ∀ i j x y, i < j → l[i]? = some x → l[j]? = some y → ¬ Anc ops j i → PairOK ops x y ∧ PairOK ops y x) : (planOf l a' h').OK P ops := by
  have hlen : l.length = ops.size := by rw [← Array.length_toList, ← hl, List.length_map]
  have hget : ∀ j, j < ops.size → ∃ x, l[j]? = some x ∧ ops[j]? = some x.o ∧ x ∈ l := by
    intro j hj
    have hj' : j < l.length := by omega
    refine ⟨l[j], List.getElem?_eq_getElem hj', ?_, List.getElem_mem hj'⟩
    rw [← Array.getElem?_toList, ← hl, List.getElem?_map, List.getElem?_eq_getElem hj']; rfl
  have hp : ∀ i j x y, l[i]? = some x → l[j]? = some y → Free ops i j → PairOK ops x y := by
    intro i j x y hx hy hf
    rcases Nat.lt_trichotomy i j with h1 | h1 | h1
    · exact (pair i j x y h1 hx hy hf.2.1).1
    · exact absurd h1 hf.1
    · exact (pair j i y x h1 hy hx hf.2.2).2
  have hop : ∀ {j : Nat} {o : Oper}, ops[j]? = some o → ∃ x, l[j]? = some x ∧ x.o = o ∧ x ∈ l := by
    intro j o ho
    obtain ⟨x, h1, h2, h3⟩ := hget j (Array.getElem?_eq_some_iff.1 ho).1
    rw [h2] at ho; injection ho with ho
    exact ⟨x, h1, ho, h3⟩
  refine ⟨back, ?_, ?_, ?_, ?_, ?_, ?_, ?_, ?_, ?_⟩
  · intro j o ho
    obtain ⟨x, h1, rfl, h3⟩ := hop ho
    obtain ⟨h4, h5⟩ := chain_next hc h1
    have := (ok x h3).step
    rw [h5]
    simp only [planOf, h1]
    exact this
  · intro j o ho
    obtain ⟨x, h1, rfl, h3⟩ := hop ho
    rw [(chain_next hc h1).1]
    simp only [planOf, h1]
  · intro j hj
    obtain ⟨x, h1, h2, h3⟩ := hget j hj
    rw [(chain_next hc h1).2]
    simp only [planOf, h1]
    exact (ok x h3).mono
  · intro j hj id
    obtain ⟨x, h1, h2, h3⟩ := hget j hj
    rw [(chain_next hc h1).2]
    simp only [planOf, h1]
    exact (ok x h3).fresh id
  · intro j hj id
    obtain ⟨x, h1, h2, h3⟩ := hget j hj
    rw [(chain_next hc h1).2]
    simp only [planOf, h1]
    exact (ok x h3).effs id
  · intro j hj id
    obtain ⟨x, h1, h2, h3⟩ := hget j hj
    simp only [planOf, h1]
    exact (ok x h3).ehid id
  · intro i j hi hj hf id
    obtain ⟨x, h1, h2, h3⟩ := hget i hi
    obtain ⟨y, g1, g2, g3⟩ := hget j hj
    simp only [planOf, h1, g1]
    exact (hp i j x y h1 g1 hf).cross id
  · intro i j oj t hoj hi hf hd
    obtain ⟨x, h1, h2, h3⟩ := hget i hi
    obtain ⟨y, g1, rfl, g3⟩ := hop hoj
    exact (hp i j x y h1 g1 hf).slots t (by simpa [dstOf, h2] using hd)
  · intro j k hj hk hf
    obtain ⟨x, h1, h2, h3⟩ := hget k hk
    obtain ⟨y, g1, g2, g3⟩ := hget j hj
    rw [(chain_next hc h1).2, (chain_next hc g1).2]
    simp only [planOf, h1, g1]
    have := hp k j x y h1 g1 hf.symm
    exact ⟨this.val, this.cells⟩
theorem region_of {l : List Inf} {a a' : Act} {h h' : Hp} (hm : P.follows .mixedOrders = true) (hc : chainI l a h a' h') (hl : l.map (·.o) = ops.toList) (back : ∀ j i, Dep ops j i → i < j) (ok : ∀ x ∈ l, x.OK P ops)
    (pair : ∀ i j x y, i < j → l[i]? = some x → l[j]? = some y → ¬ Anc ops j i → PairOK ops x y ∧ PairOK ops y x) {id : Nat} : TC P (.region id ops true) a h .normal a' h' := by
  have hk := (plan_ok hc hl back ok pair).region hm (id := id)
  obtain ⟨h1, h2⟩ := chain_first hc
  rw [h1, h2] at hk
  have hlen : l.length = ops.size := by rw [← Array.length_toList, ← hl, List.length_map]
  have h3 : (planOf l a' h').a ops.size = a' := by simp [planOf, ← hlen]
  have h4 : (planOf l a' h').h ops.size = h' := by simp [planOf, ← hlen]
  rw [h3, h4] at hk
  exact hk
end Go.AH
namespace Go.AH
variable {P : Program} {ops : Array Oper}
section
variable {α : Type}
noncomputable def putAllT (t src : T α) (ids : List Nat) : T α := List.rec t (fun i _ ih => ih.put i (src.get i)) ids
theorem putAllT_cons (t src : T α) (i : Nat) (ids : List Nat) : putAllT t src (i :: ids) = (putAllT t src ids).put i (src.get i) := rfl
theorem get_putAllT (t src : T α) : ∀ (ids : List Nat) (j : Nat), (∀ i ∈ ids, i < big) → (putAllT t src ids).get j = if j ∈ ids then src.get j else t.get j := by
  intro ids
  have hb := big_lt
  induction ids with
  | nil => intro j _; simp; rfl
  | cons i ids ih =>
    intro j h
    have hi := h i (by simp)
    rw [putAllT_cons, T.get_put _ _ _ _ (by omega), ih j fun k hk => h k (by simp [hk])]
    by_cases e : j = i
    · subst e; simp
    · simp [e]
end
noncomputable def allLt (n : Nat) (l : List Nat) : Bool := List.rec true (fun i _ ih => bif Nat.blt i n then ih else false) l
theorem allLt_ok {n : Nat} : ∀ {l : List Nat}, allLt n l = true → ∀ i ∈ l, i < n := by
  intro l
  induction l with
  | nil => intro _ i hi; cases hi
  | cons a l ih =>
    intro h i hi
    have h' : (bif Nat.blt a n then allLt n l else false) = true := h
    cases hb : Nat.blt a n with
    | false => rw [hb] at h'; cases h'
    | true =>
      rw [hb] at h'
      rcases List.mem_cons.1 hi with rfl | hi
      · exact blt_iff.1 hb
      · exact ih h' i hi
noncomputable def memB (i : Nat) (l : List Nat) : Bool := List.rec false (fun j _ ih => bif Nat.beq i j then true else ih) l
theorem memB_iff {i : Nat} : ∀ {l : List Nat}, memB i l = true ↔ i ∈ l := by
  intro l
  induction l with
  | nil => simp; rfl
  | cons a l ih =>
    show (bif Nat.beq i a then true else memB i l) = true ↔ _
    cases hb : Nat.beq i a with
    | true => have := Nat.eq_of_beq_eq_true hb; simp [this]
    | false =>
      have hne : i ≠ a := fun h => by subst h; simp at hb
      simp [ih, hne]
noncomputable def upL (k : Nat) : Nat → List Nat := Nat.rec (fun _ => []) (fun _ ih a => a :: ih (Nat.succ a)) k
theorem mem_upL {i : Nat} : ∀ {k a : Nat}, i ∈ upL k a ↔ a ≤ i ∧ i < a + k := by
  intro k
  induction k with
  | zero => intro a; show i ∈ [] ↔ _; simp
  | succ k ih => intro a; show i ∈ a :: upL k (a + 1) ↔ _; rw [List.mem_cons, ih]; omega
structure StepD (h h1 h2 h' : EH) (vis : Nat → Bool) (w : List Nat) : Prop where
  n1 : h1.n = h.n
  g1 : ∀ id, h1.t.get id = if vis id then h.t.get id else none
  chg : Chg h1 h2 w
  n' : h'.n = h2.n
  g' : ∀ id, id < h2.n → h'.t.get id = if (vis id = true ∨ h.n ≤ id) then h2.t.get id else h.t.get id
  g'' : ∀ id, h2.n ≤ id → h'.t.get id = none
  wok : ∀ id ∈ w, (vis id = true ∨ h.n ≤ id) ∧ id < h2.n
def hidD (h h2 : EH) (vis : Nat → Bool) (id : Nat) : Bool := (!vis id && decide (id < h.n)) || decide (h2.n ≤ id)
def effD (h h2 : EH) (w : List Nat) (id : Nat) : Bool := decide (id ∈ w) || (decide (h.n ≤ id) && decide (id < h2.n))
theorem Hp.eq {a b : Hp} (h1 : ∀ i, a.m i = b.m i) (h2 : a.n = b.n) : a = b := by
  cases a; cases b; simp only at h1 h2; subst h2; congr; funext i; exact h1 i
theorem StepD.inf {o : Oper} {a : Act} {v : Value} {h h1 h2 h' : EH} {vis : Nat → Bool} {w : List Nat} (s : StepD h h1 h2 h' vis w) (hl : ∀ id, h.n ≤ id → h.t.get id = none) (hl2 : ∀ id, h2.n ≤ id → h2.t.get id = none)
    (hw : Region.wanted o (yielded ops a.tmps) = true) (hk : ∀ y ∈ o.op.operands, okOp P.globals.size y) (ht : TX P o a.eval h1.den v h2.den) :
    Inf.OK P ops { o := o, a := a, h := h.den, v := v, h' := h'.den, hid := hidD h h2 vis, eff := effD h h2 w } := by
  have hn : h.n ≤ h2.n := by have := s.chg.n; rw [s.n1] at this; exact this
  have e1 : h.den.hide (hidD h h2 vis) = h1.den := by
    refine Hp.eq (fun id => ?_) s.n1.symm
    simp only [Hp.hide, EH.den, hidD, s.g1]
    by_cases h3 : h2.n ≤ id
    · have := hl id (by omega); simp [this]
    · by_cases hv : vis id = true
      · simp [h3, hv]
      · by_cases h4 : id < h.n
        · simp [h4, hv]
        · have := hl id (by omega); simp [h4, h3, this]
  have e2 : h'.den.hide (hidD h h2 vis) = h2.den := by
    refine Hp.eq (fun id => ?_) s.n'
    simp only [Hp.hide, EH.den, hidD]
    by_cases h3 : h2.n ≤ id
    · simp [h3, hl2 id h3]
    · rw [s.g' id (by omega)]
      by_cases hv : vis id = true
      · simp [h3, hv]
      · by_cases h4 : id < h.n
        · have h5 : h1.t.get id = none := by rw [s.g1, if_neg hv]
          have h6 := s.chg.none id (by rw [s.n1]; exact h4) h5
          simp [h4, h6, hv]
        · rw [if_pos (.inr (by omega))]
          simp [h4, h3]
  refine ⟨.inr ⟨hw, hk, ?_⟩, ?_, ?_, ?_, ?_⟩
  · simp only; rw [e1, e2]; exact ht
  · simp only [EH.den, s.n']; exact hn
  · intro id hid hnone
    simp only [EH.den, Option.map_eq_none_iff] at hid hnone ⊢
    rw [s.g' id (by omega)]
    split
    · exact s.chg.none id (by rw [s.n1]; exact hid) (by rw [s.g1, hnone]; simp)
    · exact hnone
  · intro id he
    simp only [effD, Bool.or_eq_false_iff, decide_eq_false_iff_not, Bool.and_eq_false_iff] at he
    simp only [EH.den]
    congr 1
    by_cases h3 : h2.n ≤ id
    · rw [s.g'' id h3, hl id (by omega)]
    · rw [s.g' id (by omega)]
      split
      · rename_i hc
        have h4 : id < h.n := by omega
        rcases hc with hc | hc
        · rw [s.chg.old id (by rw [s.n1]; exact h4) he.1, s.g1, if_pos hc]
        · omega
      · rfl
  · intro id he
    simp only [effD, Bool.or_eq_true, decide_eq_true_eq, Bool.and_eq_true] at he
    simp only [hidD, Bool.or_eq_false_iff, decide_eq_false_iff_not, Bool.and_eq_false_iff, Bool.not_eq_false']
    rcases he with he | he
    · have := s.wok id he
      refine ⟨?_, by omega⟩
      rcases this.1 with h4 | h4
      · exact .inl h4
      · exact .inr (by omega)
    · exact ⟨.inr (by omega), by omega⟩
end Go.AH
namespace Go.AH
variable {P : Program} {ops : Array Oper}
noncomputable def avoidB (lo hi : Nat) (k : Nat) : Value → Bool :=
  Nat.rec (motive := fun _ => Value → Bool) (fun _ => false) (fun _ ih v => match v with
    | .pointer (some a) => bif Nat.blt a.block lo then true else Nat.ble hi a.block
    | .slice (some a) _ _ => bif Nat.blt a.block lo then true else Nat.ble hi a.block
    | .map (some r) => bif Nat.blt r lo then true else Nat.ble hi r
    | .chan (some _) => false
    | .func _ f c => f.toList.all ih && c.toList.all ih
    | .iface _ v => ih v
    | .agg cs => cs.toList.all ih
    | .tuple cs => cs.toList.all ih
    | _ => true) k
theorem out_ok {lo hi i : Nat} (h : (bif Nat.blt i lo then true else Nat.ble hi i) = true) : ¬ (lo ≤ i ∧ i < hi) := by
  cases hb : Nat.blt i lo with
  | true => have := blt_iff.1 hb; omega
  | false => rw [hb] at h; have := ble_iff.1 h; omega
theorem avoidB_ok {lo hi : Nat} : ∀ (k : Nat) (v : Value), avoidB lo hi k v = true → ment (fun id => ¬ (lo ≤ id ∧ id < hi)) v := by
  intro k
  induction k with
  | zero => intro v h; cases h
  | succ k ih =>
    intro v h
    have all : ∀ (cs : Array Value), cs.toList.all (avoidB lo hi k) = true → ∀ u ∈ cs, ment (fun id => ¬ (lo ≤ id ∧ id < hi)) u := fun cs hc u hu => ih u (List.all_eq_true.1 hc u (by simpa using hu))
    cases v with
    | pointer a => cases a with
      | none => rw [ment] <;> simp
      | some a => rw [ment]; exact out_ok h
    | slice a l c => cases a with
      | none => rw [ment] <;> simp
      | some a => rw [ment]; exact out_ok h
    | map a => cases a with
      | none => rw [ment] <;> simp
      | some a => rw [ment]; exact out_ok h
    | chan a => cases a with
      | none => rw [ment] <;> simp
      | some a => cases h
    | func fn f c =>
      have h' : (f.toList.all (avoidB lo hi k) && c.toList.all (avoidB lo hi k)) = true := h
      simp only [Bool.and_eq_true] at h'
      rw [ment]; exact ⟨all f h'.1, all c h'.2⟩
    | iface t v => rw [ment]; exact ih v h
    | agg cs => rw [ment]; exact all cs h
    | tuple cs => rw [ment]; exact all cs h
    | _ => rw [ment] <;> simp
noncomputable def T.all {α : Type} (p : α → Bool) (t : T α) : Bool := T.rec true (fun _ v _ il ir => bif il then (match v with | some a => bif p a then ir else false | none => ir) else false) t
theorem T.all_node {α : Type} {p : α → Bool} (l r : T α) (v : Option α) : (T.node l v r).all p = (bif l.all p then (match v with | some a => bif p a then r.all p else false | none => r.all p) else false) := rfl
theorem T.all_ok {α : Type} {p : α → Bool} : ∀ {t : T α}, t.all p = true → ∀ i a, t.get i = some a → p a = true := by
  intro t
  induction t with
  | leaf => intro _ i a h; cases h
  | node l v r ihl ihr =>
    intro h i a hg
    have h' := h
    rw [T.all_node] at h'
    cases hl : l.all p with
    | false => rw [hl] at h'; cases h'
    | true =>
      rw [hl] at h'
      simp only [cond_true] at h'
      have hv : (∀ a, v = some a → p a = true) ∧ r.all p = true := by
        cases v with
        | none => exact ⟨fun _ h => (by cases h), h'⟩
        | some b =>
          cases hb : p b with
          | false => simp only [hb] at h'; cases h'
          | true => simp only [hb, cond_true] at h'; exact ⟨fun c hc => by injection hc with hc; subst hc; exact hb, h'⟩
      rw [T.get_node] at hg
      split at hg
      · exact hv.1 a hg
      · split at hg
        · exact ihl hl _ a hg
        · exact ihr hv.2 _ a hg
noncomputable def EB.avoid (lo hi : Nat) (b : EB) : Bool := bif b.z.all (avoidB lo hi 3) then b.t.all (avoidB lo hi 3) else false
theorem EB.avoid_ok {lo hi : Nat} {b : EB} (h : b.avoid lo hi = true) : ∀ v ∈ b.den.cells, ment (fun id => ¬ (lo ≤ id ∧ id < hi)) v := by
  intro v hv
  unfold EB.avoid at h
  cases hz : b.z.all (avoidB lo hi 3) with
  | false => rw [hz] at h; cases h
  | true =>
    rw [hz] at h
    simp only [cond_true] at h
    simp only [EB.den, Array.mem_map] at hv
    obtain ⟨i, _, rfl⟩ := hv
    unfold EB.at
    cases hg : b.t.get i with
    | some u => exact avoidB_ok 3 u (T.all_ok h i u hg)
    | none =>
      simp only
      cases hz2 : b.z[Nat.mod i b.z.length]? with
      | none => simp only [Option.getD_none]; unfold undef; rw [ment] <;> simp
      | some u => exact avoidB_ok 3 u (List.all_eq_true.1 hz u (List.mem_of_getElem? hz2))
end Go.AH
namespace Go.AH
variable {P : Program} {ops : Array Oper}
structure Rc where
  call : Bool
  l : List Nat
  n : Nat
  n' : Nat
  w : List Nat
noncomputable def Rc.vis (r : Rc) (id : Nat) : Bool := match r.call with | true => !(memB id r.l) | false => memB id r.l
noncomputable def Rc.hidB (r : Rc) (id : Nat) : Bool := bif Nat.ble r.n' id then true else bif Nat.blt id r.n then !(r.vis id) else false
noncomputable def Rc.hid (r : Rc) (id : Nat) : Bool := (!r.vis id && decide (id < r.n)) || decide (r.n' ≤ id)
def Rc.eff (r : Rc) (id : Nat) : Bool := decide (id ∈ r.w) || (decide (r.n ≤ id) && decide (id < r.n'))
theorem Rc.hidB_ok {r : Rc} {id : Nat} (h : r.hidB id = true) : r.hid id = true := by
  unfold Rc.hidB at h
  unfold Rc.hid
  cases h1 : Nat.ble r.n' id with
  | true => have := ble_iff.1 h1; simp [this]
  | false =>
    rw [h1] at h
    cases h2 : Nat.blt id r.n with
    | true => rw [h2] at h; have := blt_iff.1 h2; simp only [cond_false, cond_true] at h; simp [h, this]
    | false => rw [h2] at h; cases h
noncomputable def pairB (x y : Rc) : Bool :=
  bif Nat.ble x.n' y.n then (bif y.w.all x.hidB then (bif x.w.all y.hidB then (upL (Nat.sub x.n' x.n) x.n).all y.hidB else false) else false) else false
noncomputable def apartB (x : Rc) (v : Value) (h' : EH) (y : Rc) : Bool :=
  bif Nat.beq x.n x.n' then true else bif avoidB x.n x.n' 4 v then (y.w ++ upL (Nat.sub y.n' y.n) y.n).all (fun id => match h'.t.get id with | some b => b.avoid x.n x.n' | none => true) else false
structure RecOf (r : Rc) (x : Inf) : Prop where
  hid : ∀ id, r.hid id = true → x.hid id = true
  eff : ∀ id, x.eff id = true → r.eff id = true
  n : x.h.n = r.n
  n' : x.h'.n = r.n'
  bv : bnd x.h'.n x.v
  bc : ∀ id b, x.h'.m id = some b → ∀ v ∈ b.cells, bnd x.h'.n v
structure PairDyn (x y : Inf) : Prop where
  cross : ∀ id, x.eff id = true → y.hid id = true
  val : ment (fun id => ¬ inR y id) x.v
  cells : ∀ id b, x.eff id = true → x.h'.m id = some b → ∀ v ∈ b.cells, ment (fun id => ¬ inR y id) v
theorem bif_true {c x : Bool} (h : (bif c then x else false) = true) : c = true ∧ x = true := by cases c <;> simp_all
theorem pair_ok {rx ry : Rc} {x y : Inf} {h' : EH} (hx : RecOf rx x) (hy : RecOf ry y) (he : y.h' = h'.den) (hp : pairB rx ry = true) (ha : apartB rx y.v h' ry = true) : PairDyn x y ∧ PairDyn y x := by
  obtain ⟨p1, hp⟩ := bif_true hp
  obtain ⟨p2, hp⟩ := bif_true hp
  obtain ⟨p3, p4⟩ := bif_true hp
  have p1 : rx.n' ≤ ry.n := ble_iff.1 p1
  have hin : ∀ {r : Rc} {id : Nat}, r.eff id = true → id ∈ r.w ∨ (r.n ≤ id ∧ id < r.n') := by
    intro r id h
    simpa [Rc.eff] using h
  refine ⟨⟨fun id h => hy.hid id ?_, ?_, fun id b h hb v hv => ?_⟩, ⟨fun id h => hx.hid id ?_, ?_, fun id b h hb v hv => ?_⟩⟩
  · rcases hin (hx.eff id h) with h1 | h1
    · exact Rc.hidB_ok (List.all_eq_true.1 p3 id h1)
    · refine Rc.hidB_ok (List.all_eq_true.1 p4 id (mem_upL.2 ⟨h1.1, ?_⟩))
      show id < rx.n + (rx.n' - rx.n); omega
  · refine ment_of_bnd (n := x.h'.n) (fun i hi hr => ?_) _ hx.bv
    have := hr.1; rw [hy.n] at this; rw [hx.n'] at hi; omega
  · refine ment_of_bnd (n := x.h'.n) (fun i hi hr => ?_) _ (hx.bc id b hb v hv)
    have := hr.1; rw [hy.n] at this; rw [hx.n'] at hi; omega
  · rcases hin (hy.eff id h) with h1 | h1
    · exact Rc.hidB_ok (List.all_eq_true.1 p2 id h1)
    · simp only [Rc.hid, Bool.or_eq_true, decide_eq_true_eq]; right; omega
  · unfold apartB at ha
    cases hb : Nat.beq rx.n rx.n' with
    | true =>
      have := Nat.eq_of_beq_eq_true hb
      refine ment_of_bnd (n := y.h'.n) (fun i _ hr => ?_) _ hy.bv
      have h1 := hr.1; have h2 := hr.2; rw [hx.n] at h1; rw [hx.n'] at h2; omega
    | false =>
      rw [hb] at ha
      obtain ⟨a1, _⟩ := bif_true ha
      have := avoidB_ok 4 _ a1
      unfold inR
      rw [hx.n, hx.n']
      exact this
  · unfold apartB at ha
    cases hbq : Nat.beq rx.n rx.n' with
    | true =>
      have := Nat.eq_of_beq_eq_true hbq
      refine ment_of_bnd (n := y.h'.n) (fun i _ hr => ?_) _ (hy.bc id b hb v hv)
      have h1 := hr.1; have h2 := hr.2; rw [hx.n] at h1; rw [hx.n'] at h2; omega
    | false =>
      rw [hbq] at ha
      obtain ⟨_, a2⟩ := bif_true ha
      have hmem : id ∈ ry.w ++ upL (Nat.sub ry.n' ry.n) ry.n := by
        rcases hin (hy.eff id h) with h1 | h1
        · simp [h1]
        · refine List.mem_append.2 (.inr (mem_upL.2 ⟨h1.1, ?_⟩))
          show id < ry.n + (ry.n' - ry.n); omega
      have h3 := List.all_eq_true.1 a2 id hmem
      rw [he] at hb
      simp only [EH.den, Option.map_eq_some_iff] at hb
      obtain ⟨b', hb1, rfl⟩ := hb
      rw [hb1] at h3
      have := EB.avoid_ok h3 v hv
      unfold inR
      rw [hx.n, hx.n']
      exact this
end Go.AH
namespace Go.AH
variable {P : Program} {ops : Array Oper}
noncomputable def bitB (m i : Nat) : Bool := Nat.beq (Nat.mod (Nat.shiftRight m i) 2) 1
noncomputable def checkAll (m : Nat) (cur : Rc) (v : Value) (h' : EH) (rs : List Rc) : Nat → Bool :=
  List.rec (motive := fun _ => Nat → Bool) (fun _ => true) (fun r _ ih k => bif bitB m (Nat.pred k) then ih (Nat.pred k) else bif pairB r cur then (bif apartB r v h' cur then ih (Nat.pred k) else false) else false) rs
noncomputable def gatherE (m : Nat) (rs : List Rc) : Nat → List Nat :=
  List.rec (motive := fun _ => Nat → List Nat) (fun _ => []) (fun r _ ih k => bif bitB m (Nat.pred k) then ih (Nat.pred k) else r.w ++ (upL (Nat.sub r.n' r.n) r.n ++ ih (Nat.pred k))) rs
noncomputable def nameV : Value → List Nat
  | .pointer (some a) => [a.block]
  | .slice (some a) _ _ => [a.block]
  | _ => []
noncomputable def namesL (ev : Operand → Value) (l : List Operand) : List Nat := List.rec [] (fun x _ ih => nameV (ev x) ++ ih) l
noncomputable def touchL (o : Oper) (ev : Operand → Value) : List Nat := match o.op with
  | .move _ => []
  | .assign _ => []
  | .pick _ _ _ => []
  | .nilCheck _ => []
  | .fieldAddr _ _ _ => []
  | .field _ _ _ => []
  | .indexAddr _ _ _ => []
  | .index _ _ _ => []
  | .extract _ _ => []
  | .binOp _ _ _ _ _ => []
  | .unOp _ _ _ => []
  | .makeFunc _ _ _ => []
  | _ => namesL ev o.op.operands.toList
noncomputable def isCall (o : Oper) : Bool := match o.op with
  | .call { callee := .value _, args := _, argTypes := _ } => true
  | _ => false
noncomputable def evOne (P : Program) (call : CallS) (o : Oper) (m : Nat) (k : Nat) (rs : List Rc) (f : FrS) (h : EH) : Option (Value × EH × Rc) :=
  match isCall o with
  | true => (fun E => bif (bif Nat.blt h.n big then allLt h.n E else false) then (match evO P call o f.eval { t := putAllT h.t .leaf E, n := h.n, w := [] } with
    | some (v, h2) => forceN h2.n fun n' => bif (bif allLt n' h2.w then h2.w.all (fun id => bif Nat.ble h.n id then true else !(memB id E)) else false) then some (v, { t := putAllT h2.t h.t E, n := n', w := h2.w ++ h.w }, { call := true, l := E, n := h.n, n' := n', w := h2.w }) else none
    | none => none) else none) (gatherE m rs k)
  | false => (fun l => bif (bif Nat.blt h.n big then allLt h.n l else false) then (match evX P o f.eval { t := putAllT .leaf h.t l, n := h.n, w := [] } with
    | some (v, h2) => forceN h2.n fun n' => bif (bif Nat.blt n' big then (bif allLt n' h2.w then h2.w.all (fun id => bif Nat.ble h.n id then true else memB id l) else false) else false) then some (v, { t := putAllT h.t h2.t (h2.w ++ upL (Nat.sub n' h.n) h.n), n := n', w := h2.w ++ h.w }, { call := false, l := l, n := h.n, n' := n', w := h2.w }) else none
    | none => none) else none) (touchL o f.eval)
noncomputable def skipRc (h : EH) : Rc := { call := false, l := [], n := h.n, n' := h.n, w := [] }
noncomputable def evD (P : Program) (call : CallS) (ops : Array Oper) (l : List (Oper × Nat)) : Nat → List Rc → FrS → EH → Option (FrS × EH) :=
  List.rec (motive := fun _ => Nat → List Rc → FrS → EH → Option (FrS × EH)) (fun _ _ f h => some (f, h))
    (fun om _ ih k rs f h => match om with
      | (o, m) => match evWanted ops o f with
        | true => (match evOne P call o m k rs f h with
          | some (v, h', r) => bif checkAll m r v h' rs k then ih (Nat.succ k) (r :: rs) (f.put o.dst v) h' else none
          | none => none)
        | false => ih (Nat.succ k) (skipRc h :: rs) (f.put o.dst undef) h) l
theorem evD_cons {call : CallS} (o : Oper) (m : Nat) (l : List (Oper × Nat)) (k : Nat) (rs : List Rc) (f : FrS) (h : EH) : evD P call ops ((o, m) :: l) k rs f h = match evWanted ops o f with
        | true => (match evOne P call o m k rs f h with
          | some (v, h', r) => bif checkAll m r v h' rs k then evD P call ops l (k + 1) (r :: rs) (f.put o.dst v) h' else none
          | none => none)
        | false => evD P call ops l (k + 1) (skipRc h :: rs) (f.put o.dst undef) h := rfl
def Sat (P : Program) (h : Hp) : Prop := ∃ ρ W, HOK P.globals.size h ρ W
theorem Sat.lt {h : EH} (s : Sat P h.den) : ∀ id, h.n ≤ id → h.t.get id = none := by
  obtain ⟨ρ, W, ho⟩ := s
  intro id hid
  cases hg : h.t.get id with
  | none => rfl
  | some b => have := ho.lt id b.den (den_m hg); have h2 : h.den.n = h.n := rfl; omega
theorem Sat.hide {h : Hp} (s : Sat P h) (q : Nat → Bool) : Sat P (h.hide q) := by
  obtain ⟨ρ, W, ho⟩ := s
  exact ⟨ρ, W, ho.hide q⟩
theorem TX.sat {o : Oper} {a : Act} {h h' : Hp} {v : Value} (ht : TX P o a.eval h v h') (hk : ∀ x ∈ o.op.operands, okOp P.globals.size x) (s : Sat P h) (hb : bndA h.n a) : Sat P h' ∧ bnd h'.n v := by
  obtain ⟨ρ, W, ho⟩ := s
  have := wp_outcome (ht (fun x hx => eval_bnd ho.gle hb x (hk x hx)) ρ W ho (renA ρ a) (fun _ W' => ∃ ρ', bnd h'.n v ∧ HOK P.globals.size h' ρ' W') (fun _ _ _ => False)
    (fun x hx => eval_ren ho.glob _ x (hk x hx)) fun ρ' W' hv ho' _ => ⟨ρ', hv, ho'⟩)
  obtain ⟨_, W', ρ', hv, ho'⟩ := this
  exact ⟨⟨ρ', W', ho'⟩, hv⟩
theorem ht' {o : Oper} {f : FrS} (ok : f.OK) {h h' : Hp} {v : Value} (ht : TX P o f.eval h v h') (hk : ∀ x ∈ o.op.operands, okOp P.globals.size x) (s : Sat P h) (hb : bndA h.n f.den) : Sat P h' ∧ bnd h'.n v := by
  rw [← FrS.eval_den ok] at ht
  exact ht.sat hk s hb
theorem bif_some' {α : Type} {c : Bool} {x : Option α} {r : α} (h : (bif c then x else none) = some r) : c = true ∧ x = some r := by cases c <;> simp_all
theorem Sat.bd {h : Hp} (s : Sat P h) : ∀ id b, h.m id = some b → ∀ v ∈ b.cells, bnd h.n v := by
  obtain ⟨ρ, W, ho⟩ := s
  exact ho.bd
theorem StepD.chg' {h h1 h2 h' : EH} {vis : Nat → Bool} {w : List Nat} (s : StepD h h1 h2 h' vis w) (hw : h'.w = w ++ h.w) : Chg h h' w := by
  have hn : h.n ≤ h2.n := by have := s.chg.n; rw [s.n1] at this; exact this
  refine ⟨by rw [s.n']; exact hn, hw, fun id hi hl => ?_, fun id hi hnone => ?_⟩
  · rw [s.g' id (by omega)]
    split
    · rename_i hc
      rcases hc with hc | hc
      · rw [s.chg.old id (by rw [s.n1]; exact hi) hl, s.g1, if_pos hc]
      · omega
    · rfl
  · rw [s.g' id (by omega)]
    split
    · exact s.chg.none id (by rw [s.n1]; exact hi) (by rw [s.g1, hnone]; simp)
    · exact hnone
structure OneOK (P : Program) (ops : Array Oper) (o : Oper) (f : FrS) (h : EH) (v : Value) (h' : EH) (r : Rc) (x : Inf) : Prop where
  eo : x.o = o
  ea : x.a = f.den
  eh : x.h = h.den
  ev : x.v = v
  eh' : x.h' = h'.den
  ok : x.OK P ops
  recOf : RecOf r x
  sat : Sat P h'.den
  mono : h.n ≤ h'.n
  chg : ∃ w, Chg h h' w
theorem one_of {o : Oper} {f : FrS} (ok : f.OK) {h h1 h2 h' : EH} {v : Value} {vis : Nat → Bool} {w : List Nat} {r : Rc} (s : StepD h h1 h2 h' vis w) (sat : Sat P h.den) (hb : bndA h.n f.den) (hk : ∀ x ∈ o.op.operands, okOp P.globals.size x)
    (hw : Region.wanted o (yielded ops f.den.tmps) = true) (ht : TX P o f.eval h1.den v h2.den) (hwl : h'.w = w ++ h.w) (hr : r = { call := r.call, l := r.l, n := h.n, n' := h2.n, w := w }) (hv : ∀ id, r.vis id = vis id) :
    ∃ x, OneOK P ops o f h v h' r x := by
  rw [← FrS.eval_den ok] at ht
  have e1 : h1.den = h.den.hide fun id => !vis id := by
    refine Hp.eq (fun id => ?_) s.n1
    simp only [Hp.hide, EH.den, s.g1]
    by_cases hv : vis id = true <;> simp [hv]
  have sat1 : Sat P h1.den := by rw [e1]; exact sat.hide _
  have hb1 : bndA h1.den.n f.den := by have : h1.den.n = h.n := s.n1; rw [this]; exact hb
  obtain ⟨sat2, hv2⟩ := ht.sat hk sat1 hb1
  have hi := s.inf (ops := ops) (P := P) (o := o) (a := f.den) (v := v) sat.lt sat2.lt hw hk ht
  have hstep := hi.step
  simp only [hw] at hstep
  rcases hstep with ⟨hf, _⟩ | ⟨_, _, hx⟩
  · cases hf
  have hx' := hx.frame _ (fun i hh => by
    cases he : effD h h2 w i with
    | false => exact hi.effs i he
    | true => have := hi.ehid i he; simp only at this; rw [this] at hh; cases hh)
  obtain ⟨sat', hv'⟩ := hx'.sat hk sat hb
  have hn : h'.n = h2.n := s.n'
  refine ⟨_, ⟨rfl, rfl, rfl, rfl, rfl, hi, ⟨fun id h => ?_, fun id h => ?_, ?_, ?_, hv', sat'.bd⟩, sat', ?_, ⟨w, s.chg' hwl⟩⟩⟩
  · rw [hr] at h
    simp only [Rc.hid, Bool.or_eq_true, decide_eq_true_eq, Bool.and_eq_true, Bool.not_eq_true'] at h
    have h3 := hv id
    rw [hr] at h3
    simp only [hidD, Bool.or_eq_true, decide_eq_true_eq, Bool.and_eq_true, Bool.not_eq_true']
    rw [← h3]; exact h
  · rw [hr]; exact h
  · rw [hr]; rfl
  · rw [hr]; exact hn
  · rw [hn]; have := s.chg.n; rw [s.n1] at this; exact this
theorem evOne_ok {call : CallS} (hc : CallOK P call) {o : Oper} {m k : Nat} {rs : List Rc} {f : FrS} (ok : f.OK) {h h' : EH} {v : Value} {r : Rc} (sat : Sat P h.den) (hb : bndA h.n f.den) (hk : ∀ x ∈ o.op.operands, okOp P.globals.size x)
    (hw : Region.wanted o (yielded ops f.den.tmps) = true) (he : evOne P call o m k rs f h = some (v, h', r)) : ∃ x, OneOK P ops o f h v h' r x := by
  unfold evOne at he
  split at he
  · simp only [forceN_eq] at he
    generalize gatherE m rs k = E at he
    obtain ⟨c1, he⟩ := bif_some' he
    obtain ⟨c1, c2⟩ := bif_true c1
    have c1 := blt_iff.1 c1
    have c2 := allLt_ok c2
    split at he
    · rename_i v2 h2 hev
      obtain ⟨c3, he⟩ := bif_some' he
      obtain ⟨c3, c4⟩ := bif_true c3
      have c3 := allLt_ok c3
      simp only [Option.some.injEq, Prod.mk.injEq] at he
      obtain ⟨rfl, rfl, rfl⟩ := he
      obtain ⟨ht, l, hch⟩ := evO_ok hc hev
      have hl : h2.w = l := by simpa using hch.w
      subst hl
      have hbig : ∀ i ∈ E, i < big := fun i hi => Nat.lt_trans (c2 i hi) c1
      have sat2 : Sat P h2.den := by
        refine (ht' ok ht hk ?_ ?_).1
        · have e1 : EH.den { t := putAllT h.t .leaf E, n := h.n, w := [] } = h.den.hide fun id => memB id E := by
            refine Hp.eq (fun id => ?_) rfl
            simp only [Hp.hide, EH.den, get_putAllT _ _ _ _ hbig, T.get_leaf]
            by_cases hm : id ∈ E
            · simp [hm, memB_iff.2 hm]
            · have : ¬ memB id E = true := fun h => hm (memB_iff.1 h)
              simp [hm, this]
          rw [e1]; exact sat.hide _
        · exact hb
      refine one_of ok (h1 := { t := putAllT h.t .leaf E, n := h.n, w := [] }) (h2 := h2) (vis := fun id => !(memB id E)) (w := h2.w) ⟨rfl, fun id => ?_, hch, rfl, fun id hid => ?_, fun id hid => ?_, fun id hid => ⟨?_, c3 id hid⟩⟩ sat hb hk hw ht rfl rfl (fun id => rfl)
      · simp only [get_putAllT _ _ _ _ hbig, T.get_leaf]
        by_cases hm : id ∈ E
        · simp [hm, memB_iff.2 hm]
        · have : ¬ memB id E = true := fun h => hm (memB_iff.1 h)
          simp [hm, this]
      · simp only [get_putAllT _ _ _ _ hbig]
        by_cases hm : id ∈ E
        · have h5 := c2 id hm
          have h6 : ¬ h.n ≤ id := by omega
          simp [hm, memB_iff.2 hm, h6]
        · have : ¬ memB id E = true := fun h => hm (memB_iff.1 h)
          simp [hm, this]
      · simp only [get_putAllT _ _ _ _ hbig]
        have hmono : h.n ≤ h2.n := hch.n
        rw [if_neg (fun hm => by have := c2 id hm; omega)]
        exact sat2.lt id hid
      · have := List.all_eq_true.1 c4 id hid
        cases hq : Nat.ble h.n id with
        | true => exact .inr (ble_iff.1 hq)
        | false => rw [hq] at this; exact .inl this
    · cases he
  · simp only [forceN_eq] at he
    generalize touchL o f.eval = l at he
    obtain ⟨c1, he⟩ := bif_some' he
    obtain ⟨c1, c2⟩ := bif_true c1
    have c1 := blt_iff.1 c1
    have c2 := allLt_ok c2
    split at he
    · rename_i v2 h2 hev
      obtain ⟨c3, he⟩ := bif_some' he
      obtain ⟨c0, c3⟩ := bif_true c3
      have c0 := blt_iff.1 c0
      obtain ⟨c3, c4⟩ := bif_true c3
      have c3 := allLt_ok c3
      simp only [Option.some.injEq, Prod.mk.injEq] at he
      obtain ⟨rfl, rfl, rfl⟩ := he
      have ht := evX_ok hev
      obtain ⟨w, hch⟩ := evX_chg hev
      have hl : h2.w = w := by simpa using hch.w
      subst hl
      have hmono : h.n ≤ h2.n := hch.n
      have hbig : ∀ i ∈ l, i < big := fun i hi => Nat.lt_trans (c2 i hi) c1
      have hup : ∀ i, i ∈ upL (Nat.sub h2.n h.n) h.n ↔ h.n ≤ i ∧ i < h2.n := fun i => by
        rw [mem_upL]; show h.n ≤ i ∧ i < h.n + (h2.n - h.n) ↔ _; omega
      have hbig2 : ∀ i ∈ h2.w ++ upL (Nat.sub h2.n h.n) h.n, i < big := fun i hi => by
        rcases List.mem_append.1 hi with hi | hi
        · have := c3 i hi; omega
        · have := (hup i).1 hi; omega
      have hg1 : ∀ id, (putAllT .leaf h.t l).get id = if memB id l then h.t.get id else none := fun id => by
        simp only [get_putAllT _ _ _ _ hbig, T.get_leaf]
        by_cases hm : id ∈ l
        · simp [hm, memB_iff.2 hm]
        · have : ¬ memB id l = true := fun h => hm (memB_iff.1 h)
          simp [hm, this]
      refine one_of ok (h1 := { t := putAllT .leaf h.t l, n := h.n, w := [] }) (h2 := h2) (vis := fun id => memB id l) (w := h2.w) ⟨rfl, hg1, hch, rfl, fun id hid => ?_, fun id hid => ?_, fun id hid => ⟨?_, c3 id hid⟩⟩ sat hb hk hw ht rfl rfl (fun id => rfl)
      · simp only [get_putAllT _ _ _ _ hbig2]
        by_cases hm : id ∈ h2.w ++ upL (Nat.sub h2.n h.n) h.n
        · rw [if_pos hm]
          have : memB id l = true ∨ h.n ≤ id := by
            rcases List.mem_append.1 hm with hm | hm
            · have := List.all_eq_true.1 c4 id hm
              cases hq : Nat.ble h.n id with
              | true => exact .inr (ble_iff.1 hq)
              | false => rw [hq] at this; exact .inl this
            · exact .inr ((hup id).1 hm).1
          rw [if_pos this]
        · rw [if_neg hm]
          have h7 : id ∉ h2.w := fun h => hm (List.mem_append.2 (.inl h))
          have h8 : id < h.n := by
            have : ¬ (h.n ≤ id ∧ id < h2.n) := fun h => hm (List.mem_append.2 (.inr ((hup id).2 h)))
            omega
          split
          · rename_i hcc
            rcases hcc with hcc | hcc
            · have h9 := hch.old id h8 h7
              rw [h9]
              show _ = (putAllT .leaf h.t l).get id
              rw [hg1, if_pos hcc]
            · omega
          · rfl
      · simp only [get_putAllT _ _ _ _ hbig2]
        rw [if_neg (fun hm => ?_)]
        · exact sat.lt id (by omega)
        · rcases List.mem_append.1 hm with hm | hm
          · have := c3 id hm; omega
          · have := (hup id).1 hm; omega
      · have := List.all_eq_true.1 c4 id hid
        cases hq : Nat.ble h.n id with
        | true => exact .inr (ble_iff.1 hq)
        | false => rw [hq] at this; exact .inl this
    · cases he
end Go.AH
namespace Go.AH
variable {P : Program} {ops : Array Oper}
theorem checkAll_ok {m : Nat} {cur : Rc} {v : Value} {h' : EH} : ∀ {rs : List Rc} {k : Nat}, rs.length = k → checkAll m cur v h' rs k = true → ∀ i r, rs.reverse[i]? = some r → bitB m i = false → pairB r cur = true ∧ apartB r v h' cur = true := by
  intro rs
  induction rs with
  | nil => intro k _ _ i r hr; simp at hr
  | cons q rs ih =>
    intro k hk hc i r hr hb
    obtain ⟨k, rfl⟩ : ∃ j, k = j + 1 := ⟨k - 1, by simp at hk; omega⟩
    have hk' : rs.length = k := by simpa using hk
    have hc' : (bif bitB m k then checkAll m cur v h' rs k else bif pairB q cur then (bif apartB q v h' cur then checkAll m cur v h' rs k else false) else false) = true := hc
    rw [List.reverse_cons, List.getElem?_append] at hr
    split at hr
    · rename_i hlt
      have : checkAll m cur v h' rs k = true := by
        cases hbk : bitB m k with
        | true => rw [hbk] at hc'; exact hc'
        | false => rw [hbk] at hc'; exact (bif_true (bif_true hc').2).2
      exact ih hk' this i r hr hb
    · rename_i hlt
      have hi : i = k := by
        simp only [List.length_reverse] at hlt hr
        have := List.getElem?_eq_some_iff.1 hr
        obtain ⟨h1, _⟩ := this
        simp at h1; omega
      subst hi
      rw [hb] at hc'
      obtain ⟨c1, c2⟩ := bif_true hc'
      obtain ⟨c2, _⟩ := bif_true c2
      have hq : r = q := by simp [← hk'] at hr; exact hr.symm
      subst hq
      exact ⟨c1, c2⟩
theorem skip_inf {o : Oper} {f : FrS} {h : EH} (sat : Sat P h.den) (hw : Region.wanted o (yielded ops f.den.tmps) = false) :
    ∃ x, OneOK P ops o f h undef h (skipRc h) x ∧ (∀ id, x.hid id = true) ∧ ∀ id, x.eff id = false := by
  refine ⟨{ o := o, a := f.den, h := h.den, v := undef, h' := h.den, hid := fun _ => true, eff := fun _ => false }, ⟨rfl, rfl, rfl, rfl, rfl, ⟨.inl ⟨hw, rfl, rfl⟩, Nat.le_refl _, fun _ _ h => h, fun _ _ => rfl, fun _ h => (by cases h)⟩,
    ⟨fun _ _ => rfl, fun _ h => (by cases h), rfl, rfl, by simp, sat.bd⟩, sat, Nat.le_refl _, ⟨[], Chg.refl _⟩⟩, fun _ => rfl, fun _ => rfl⟩
def Told (rs : List Rc) (xs : List Inf) : Prop := rs.length = xs.length ∧ ∀ (i : Nat) (r : Rc) (x : Inf), rs.reverse[i]? = some r → xs[i]? = some x → RecOf r x
theorem Told.add {rs : List Rc} {xs : List Inf} (t : Told rs xs) {r : Rc} {x : Inf} (h : RecOf r x) : Told (r :: rs) (xs ++ [x]) := by
  refine ⟨by simp [t.1], fun i q y hq hy => ?_⟩
  rw [List.reverse_cons, List.getElem?_append] at hq
  rw [List.getElem?_append] at hy
  simp only [List.length_reverse, t.1] at hq
  split at hq
  · rename_i hlt
    rw [if_pos hlt] at hy
    exact t.2 i q y hq hy
  · rename_i hlt
    rw [if_neg hlt] at hy
    have hz : i - xs.length = 0 := by
      obtain ⟨h1, _⟩ := List.getElem?_eq_some_iff.1 hq
      simp at h1; omega
    rw [hz] at hq hy
    simp at hq hy
    subst hq; subst hy; exact h
theorem evD_ok {call : CallS} (hc : CallOK P call) (hk : okOpsB P.globals.size ops = true) : ∀ (l : List (Oper × Nat)) (k : Nat) (rs : List Rc) (xs : List Inf) (f f' : FrS) (h h' : EH), f.OK → Told rs xs → rs.length = k →
    (∀ i o m, l[i]? = some (o, m) → ops[k + i]? = some o) → Sat P h.den → bndA h.n f.den → evD P call ops l k rs f h = some (f', h') →
    ∃ ys : List Inf, chainI ys f.den h.den f'.den h'.den ∧ ys.map (·.o) = l.map (·.1) ∧ (∀ y ∈ ys, y.OK P ops) ∧
      (∀ i j x y om, i < k + j → (xs ++ ys)[i]? = some x → ys[j]? = some y → l[j]? = some om → bitB om.2 i = false → PairDyn x y ∧ PairDyn y x) ∧ f'.OK ∧ f'.nt = f.nt ∧ ∃ w, Chg h h' w := by
  intro l
  induction l with
  | nil =>
    intro k rs xs f f' h h' ok _ _ _ _ _ he
    have he' : some (f, h) = some (f', h') := he
    simp only [Option.some.injEq, Prod.mk.injEq] at he'
    obtain ⟨rfl, rfl⟩ := he'
    exact ⟨[], ⟨rfl, rfl⟩, rfl, fun y hy => (by cases hy), fun i j x y om _ _ hy => (by cases hy), ok, rfl, [], Chg.refl _⟩
  | cons om l ih =>
    obtain ⟨o, m⟩ := om
    intro k rs xs f f' h h' ok told hlen hl sat hb he
    have ho : ops[k]? = some o := by simpa using hl 0 o m rfl
    have hok := okOpsB_ok hk ho
    rw [evD_cons] at he
    have hl' : ∀ i q n, l[i]? = some (q, n) → ops[(k + 1) + i]? = some q := by
      intro i q n hq
      have := hl (i + 1) q n (by simpa using hq)
      rw [show k + 1 + i = k + (i + 1) by omega]; exact this
    have hxs : xs.length = k := by rw [← told.1, hlen]
    have go : ∀ (v : Value) (h1 : EH) (r : Rc) (x : Inf), OneOK P ops o f h v h1 r x → (∀ i q z, rs.reverse[i]? = some q → xs[i]? = some z → bitB m i = false → PairDyn z x ∧ PairDyn x z) → evD P call ops l (k + 1) (r :: rs) (f.put o.dst v) h1 = some (f', h') →
        ∃ ys : List Inf, chainI ys f.den h.den f'.den h'.den ∧ ys.map (·.o) = ((o, m) :: l).map (·.1) ∧ (∀ y ∈ ys, y.OK P ops) ∧
      (∀ i j x y om, i < k + j → (xs ++ ys)[i]? = some x → ys[j]? = some y → ((o, m) :: l)[j]? = some om → bitB om.2 i = false → PairDyn x y ∧ PairDyn y x) ∧ f'.OK ∧ f'.nt = f.nt ∧ ∃ w, Chg h h' w := by
      intro v h1 r x hx hpair he
      obtain ⟨hd, ok'⟩ := FrS.put_den ok o.dst v
      have hbv : bnd h1.n v := by have := hx.recOf.bv; rw [hx.eh', hx.ev] at this; exact this
      have hb1 : bndA h1.n (f.put o.dst v).den := by rw [hd]; exact put_bnd (bndA_mono hx.mono hb) _ hbv
      obtain ⟨ys, g1, g2, g3, g4, g5, g6, w2, g7⟩ := ih (k + 1) (r :: rs) (xs ++ [x]) _ f' h1 h' ok' (told.add hx.recOf) (by simp [hlen]) hl' hx.sat hb1 he
      obtain ⟨w1, hc1⟩ := hx.chg
      refine ⟨x :: ys, ⟨hx.ea, hx.eh, ?_⟩, ?_, ?_, ?_, g5, ?_, ⟨_, hc1.trans g7⟩⟩
      · rw [hx.ev, hx.eo, hx.eh', ← hd]; exact g1
      · simp [hx.eo, g2]
      · intro y hy
        rcases List.mem_cons.1 hy with rfl | hy
        · exact hx.ok
        · exact g3 y hy
      · intro i j z y om hij hz hy hom hbit
        cases j with
        | zero =>
          simp only [List.getElem?_cons_zero, Option.some.injEq] at hy hom
          subst hy; subst hom
          rw [List.getElem?_append_left (by omega)] at hz
          have hlt : i < rs.reverse.length := by rw [List.length_reverse, hlen]; omega
          exact hpair i _ z (List.getElem?_eq_getElem hlt) hz hbit
        | succ j =>
          simp only [List.getElem?_cons_succ] at hy hom
          refine g4 i j z y om (by omega) ?_ hy hom hbit
          rw [List.append_assoc]; exact hz
      · rw [g6]
        unfold FrS.put
        cases o.dst with
        | none => rfl
        | some d => simp only [forceV_eq]; cases Nat.blt d f.nt <;> simp
    cases hw : evWanted ops o f with
    | false =>
      rw [hw] at he
      simp only at he
      obtain ⟨x, hx, hx1, hx2⟩ := skip_inf (ops := ops) (P := P) (o := o) (f := f) sat (by rw [evWanted_ok ops o ok]; exact hw)
      refine go undef h _ x hx (fun i q z hq hz _ => ?_) he
      have hr := told.2 i q z hq hz
      have hno : ∀ id, ¬ inR x id := fun id hr => by
        have h1 := hr.1; have h2 := hr.2
        rw [hx.eh] at h1; rw [hx.eh'] at h2; omega
      refine ⟨⟨fun id _ => hx1 id, ment_of_bnd (fun i _ => hno i) _ hr.bv, fun id b _ hb v hv => ment_of_bnd (fun i _ => hno i) _ (hr.bc id b hb v hv)⟩, ⟨fun id he => ?_, ?_, fun id b he => ?_⟩⟩
      · rw [hx2] at he; cases he
      · rw [hx.ev]; unfold undef; rw [ment] <;> simp
      · rw [hx2] at he; cases he
    | true =>
      rw [hw] at he
      simp only at he
      split at he
      · rename_i v h1 r hone
        obtain ⟨c1, he⟩ := bif_some' he
        obtain ⟨x, hx⟩ := evOne_ok hc ok sat hb hok (by rw [evWanted_ok ops o ok]; exact hw) hone
        refine go v h1 r x hx (fun i q z hq hz hbit => ?_) he
        obtain ⟨p1, p2⟩ := checkAll_ok hlen c1 i q hq hbit
        refine pair_ok (told.2 i q z hq hz) hx.recOf hx.eh' p1 ?_
        rw [hx.ev]; exact p2
      · cases he
end Go.AH
namespace Go.AH
variable {P : Program} {ops : Array Oper}
noncomputable def maskOf (ms : List Nat) : List Edge → Option Nat
  | [] => some 0
  | e :: es => match maskOf ms es with
    | some r => bif Region.binds .any e then (match ms[e.on]? with
      | some m => some (Nat.lor r (Nat.lor m (Nat.pow 2 e.on)))
      | none => none) else some r
    | none => none
noncomputable def masksGo : List Oper → List Nat → Option (List Nat)
  | [], ms => some ms
  | o :: l, ms => match maskOf ms o.after.toList with
    | some m => masksGo l (ms ++ [m])
    | none => none
theorem bitB_eq (m i : Nat) : bitB m i = m.testBit i := by
  unfold bitB
  rw [Nat.testBit_eq_decide_div_mod_eq]
  have : Nat.mod (Nat.shiftRight m i) 2 = m / 2 ^ i % 2 := by
    show (m >>> i) % 2 = _
    rw [Nat.shiftRight_eq_div_pow]
  rw [this]
  by_cases h : m / 2 ^ i % 2 = 1
  · simp [h]
  · simp only [h, decide_false]
    cases hb : Nat.beq (m / 2 ^ i % 2) 1 with
    | false => rfl
    | true => exact absurd (Nat.eq_of_beq_eq_true hb) h
theorem maskOf_ok {ms : List Nat} : ∀ {es : List Edge} {m : Nat}, maskOf ms es = some m → (∀ e ∈ es, Region.binds .any e = true → e.on < ms.length) ∧ ∀ i, bitB m i = true → ∃ e ∈ es, Region.binds .any e = true ∧ (e.on = i ∨ ∃ q, ms[e.on]? = some q ∧ bitB q i = true) := by
  intro es
  induction es with
  | nil =>
    intro m h
    simp only [maskOf, Option.some.injEq] at h
    subst h
    refine ⟨fun e he => (by cases he), fun i hi => ?_⟩
    rw [bitB_eq] at hi; simp at hi
  | cons e es ih =>
    intro m h
    simp only [maskOf] at h
    split at h
    · rename_i r hr
      obtain ⟨h1, h2⟩ := ih hr
      cases hb : Region.binds .any e with
      | false =>
        rw [hb] at h
        simp only [cond_false, Option.some.injEq] at h
        subst h
        refine ⟨fun q hq hqb => ?_, fun i hi => ?_⟩
        · rcases List.mem_cons.1 hq with rfl | hq
          · rw [hb] at hqb; cases hqb
          · exact h1 q hq hqb
        · obtain ⟨q, hq, h3⟩ := h2 i hi
          exact ⟨q, by simp [hq], h3⟩
      | true =>
        rw [hb] at h
        simp only [cond_true] at h
        split at h
        · rename_i me hme
          simp only [Option.some.injEq] at h
          subst h
          refine ⟨fun q hq hqb => ?_, fun i hi => ?_⟩
          · rcases List.mem_cons.1 hq with rfl | hq
            · exact (List.getElem?_eq_some_iff.1 hme).1
            · exact h1 q hq hqb
          · rw [bitB_eq] at hi
            have hi' : (r ||| (me ||| 2 ^ e.on)).testBit i = true := hi
            rw [Nat.testBit_or, Nat.testBit_or, Nat.testBit_two_pow] at hi'
            simp only [Bool.or_eq_true, decide_eq_true_eq] at hi'
            rcases hi' with h3 | h3 | h3
            · obtain ⟨q, hq, h4⟩ := h2 i (by rw [bitB_eq]; exact h3)
              exact ⟨q, by simp [hq], h4⟩
            · exact ⟨e, by simp, hb, .inr ⟨me, hme, by rw [bitB_eq]; exact h3⟩⟩
            · exact ⟨e, by simp, hb, .inl h3⟩
        · cases h
    · cases h
theorem masksGo_ok : ∀ {l : List Oper} {ms ms' : List Nat}, (∀ i o, l[i]? = some o → ops[ms.length + i]? = some o) → ms.length + l.length = ops.size → (∀ j q, ms[j]? = some q → (∀ i, Dep ops j i → i < j) ∧ ∀ i, bitB q i = true → Anc ops j i) → masksGo l ms = some ms' →
    ms'.length = ops.size ∧ ∀ j q, ms'[j]? = some q → (∀ i, Dep ops j i → i < j) ∧ ∀ i, bitB q i = true → Anc ops j i := by
  intro l
  induction l with
  | nil =>
    intro ms ms' _ hlen h he
    simp only [masksGo, Option.some.injEq] at he
    subst he
    exact ⟨by simpa using hlen, h⟩
  | cons o l ih =>
    intro ms ms' hl hlen h he
    simp only [masksGo] at he
    split at he
    · rename_i m hm
      obtain ⟨h1, h2⟩ := maskOf_ok hm
      have ho : ops[ms.length]? = some o := by simpa using hl 0 o rfl
      refine ih (fun i q hq => ?_) (by simp at hlen ⊢; omega) (fun j q hq => ?_) he
      · have := hl (i + 1) q (by simpa using hq)
        simp only [List.length_append, List.length_cons, List.length_nil]
        rw [show ms.length + (0 + 1) + i = ms.length + (i + 1) by omega]; exact this
      · rw [List.getElem?_append] at hq
        split at hq
        · exact h j q hq
        · rename_i hlt
          have hj : j = ms.length := by
            obtain ⟨h3, _⟩ := List.getElem?_eq_some_iff.1 hq
            simp at h3; omega
          subst hj
          simp at hq
          subst hq
          refine ⟨?_, fun i hi => ?_⟩
          · rintro i ⟨o', ho', e, he, hb, rfl⟩
            rw [ho] at ho'; injection ho' with ho'; subst ho'
            exact h1 e (by simpa using he) hb
          · obtain ⟨e, he, hb, h3⟩ := h2 i hi
            have hd : Dep ops ms.length e.on := ⟨o, ho, e, by simpa using he, hb, rfl⟩
            rcases h3 with h3 | ⟨q, hq, hqi⟩
            · exact h3 ▸ Anc.one hd
            · exact Anc.more hd ((h e.on q hq).2 i hqi)
    · cases he
noncomputable def slotB (ops : List Oper) (x y : Oper) : Bool := match x.dst with
  | none => true
  | some t => (y.op.operands.toList.all fun z => match z with | .tmp u => !(Nat.beq u t) | _ => true) && (match y.dst with | some u => !(Nat.beq u t) | none => true) &&
      (match y.guard with | some (g, _) => (match ops[g]? with | some q => (match q.dst with | some u => !(Nat.beq u t) | none => true) | none => true) | none => true)
theorem nbeq {a b : Nat} (h : (!(Nat.beq a b)) = true) : a ≠ b := by
  intro e; subst e; simp at h
theorem slotB_ok {x y : Oper} (h : slotB ops.toList x y = true) : ∀ t, x.dst = some t → (∀ z ∈ y.op.operands, z ≠ .tmp t) ∧ y.dst ≠ some t ∧ ∀ g w, y.guard = some (g, w) → dstOf ops g ≠ some t := by
  intro t ht
  unfold slotB at h
  rw [ht] at h
  simp only [Bool.and_eq_true] at h
  obtain ⟨⟨h1, h2⟩, h3⟩ := h
  refine ⟨fun z hz e => ?_, fun e => ?_, fun g w hg e => ?_⟩
  · have := List.all_eq_true.1 h1 z (by simpa using hz)
    subst e
    exact nbeq this rfl
  · rw [e] at h2; exact nbeq h2 rfl
  · rw [hg] at h3
    simp only at h3
    unfold dstOf at e
    rw [← Array.getElem?_toList] at e
    cases hq : ops.toList[g]? with
    | none => rw [hq] at e; cases e
    | some q =>
      rw [hq] at e h3
      simp only [Option.bind_some] at e
      simp only at h3
      rw [e] at h3
      exact nbeq h3 rfl
noncomputable def slotsOne (ops : List Oper) (m : Nat) (y : Oper) : List Oper → Nat → Bool
  | [], _ => true
  | x :: l, i => bif bitB m i then slotsOne ops m y l (i + 1) else bif slotB ops x y then (bif slotB ops y x then slotsOne ops m y l (i + 1) else false) else false
noncomputable def slotsAll (ops : List Oper) : List (Oper × Nat) → Nat → Bool
  | [], _ => true
  | (y, m) :: l, j => bif slotsOne ops m y (ops.take j) 0 then slotsAll ops l (j + 1) else false
theorem slotsOne_ok {opl : List Oper} {m : Nat} {y : Oper} : ∀ {l : List Oper} {k : Nat}, slotsOne opl m y l k = true → ∀ i x, l[i]? = some x → bitB m (k + i) = false → slotB opl x y = true ∧ slotB opl y x = true := by
  intro l
  induction l with
  | nil => intro k _ i x hx; simp at hx
  | cons a l ih =>
    intro k h i x hx hb
    simp only [slotsOne] at h
    cases i with
    | zero =>
      simp only [List.getElem?_cons_zero, Option.some.injEq] at hx
      subst hx
      rw [Nat.add_zero] at hb
      rw [hb] at h
      obtain ⟨h1, h2⟩ := bif_true h
      exact ⟨h1, (bif_true h2).1⟩
    | succ i =>
      simp only [List.getElem?_cons_succ] at hx
      refine ih (k := k + 1) ?_ i x hx (by rw [show k + 1 + i = k + (i + 1) by omega]; exact hb)
      cases hk : bitB m k with
      | true => rw [hk] at h; exact h
      | false => rw [hk] at h; exact (bif_true (bif_true h).2).2
theorem slotsAll_ok {opl : List Oper} : ∀ {l : List (Oper × Nat)} {k : Nat}, slotsAll opl l k = true → ∀ j y m, l[j]? = some (y, m) → slotsOne opl m y (opl.take (k + j)) 0 = true := by
  intro l
  induction l with
  | nil => intro k _ j y m h; simp at h
  | cons a l ih =>
    obtain ⟨a, b⟩ := a
    intro k h j y m hj
    simp only [slotsAll] at h
    obtain ⟨h1, h2⟩ := bif_true h
    cases j with
    | zero =>
      simp only [List.getElem?_cons_zero, Option.some.injEq, Prod.mk.injEq] at hj
      obtain ⟨rfl, rfl⟩ := hj
      exact h1
    | succ j =>
      simp only [List.getElem?_cons_succ] at hj
      have := ih h2 j y m hj
      rw [show k + (j + 1) = k + 1 + j by omega]; exact this
noncomputable def planD (P : Program) (ops : Array Oper) : Option (List (Oper × Nat)) := match masksGo ops.toList [] with
  | some ms => bif okOpsB P.globals.size ops then (bif slotsAll ops.toList (ops.toList.zip ms) 0 then some (ops.toList.zip ms) else none) else none
  | none => none
noncomputable def evDraw (P : Program) (call : CallS) : DrawS := fun ops f h => match planD P ops with
  | some l => evD P call ops l 0 [] f h
  | none => none
theorem evOne_chg {call : CallS} (hc : CallOK P call) {o : Oper} {m k : Nat} {rs : List Rc} {f : FrS} {h h' : EH} {v : Value} {r : Rc} (he : evOne P call o m k rs f h = some (v, h', r)) : ∃ w, Chg h h' w := by
  unfold evOne at he
  split at he
  · simp only [forceN_eq] at he
    generalize gatherE m rs k = E at he
    obtain ⟨c1, he⟩ := bif_some' he
    obtain ⟨c1, c2⟩ := bif_true c1
    have c1 := blt_iff.1 c1
    have c2 := allLt_ok c2
    split at he
    · rename_i v2 h2 hev
      obtain ⟨c3, he⟩ := bif_some' he
      simp only [Option.some.injEq, Prod.mk.injEq] at he
      obtain ⟨rfl, rfl, rfl⟩ := he
      obtain ⟨_, l, hch⟩ := evO_ok hc hev
      have hl : h2.w = l := by simpa using hch.w
      subst hl
      have hbig : ∀ i ∈ E, i < big := fun i hi => Nat.lt_trans (c2 i hi) c1
      refine ⟨h2.w, hch.n, rfl, fun id hi hl => ?_, fun id hi hn => ?_⟩
      · simp only [get_putAllT _ _ _ _ hbig]
        by_cases hm : id ∈ E
        · rw [if_pos hm]
        · rw [if_neg hm, hch.old id hi hl]
          simp only [get_putAllT _ _ _ _ hbig, if_neg hm]
      · simp only [get_putAllT _ _ _ _ hbig]
        by_cases hm : id ∈ E
        · rw [if_pos hm]; exact hn
        · rw [if_neg hm]
          refine hch.none id hi ?_
          simp only [get_putAllT _ _ _ _ hbig, if_neg hm]; exact hn
    · cases he
  · simp only [forceN_eq] at he
    generalize touchL o f.eval = l at he
    obtain ⟨c1, he⟩ := bif_some' he
    obtain ⟨c1, c2⟩ := bif_true c1
    have c1 := blt_iff.1 c1
    have c2 := allLt_ok c2
    split at he
    · rename_i v2 h2 hev
      obtain ⟨c3, he⟩ := bif_some' he
      obtain ⟨c0, c3⟩ := bif_true c3
      have c0 := blt_iff.1 c0
      obtain ⟨c3, c4⟩ := bif_true c3
      have c3 := allLt_ok c3
      simp only [Option.some.injEq, Prod.mk.injEq] at he
      obtain ⟨rfl, rfl, rfl⟩ := he
      obtain ⟨w, hch⟩ := evX_chg hev
      have hl : h2.w = w := by simpa using hch.w
      subst hl
      have hmono : h.n ≤ h2.n := hch.n
      have hbig : ∀ i ∈ l, i < big := fun i hi => Nat.lt_trans (c2 i hi) c1
      have hup : ∀ i, i ∈ upL (Nat.sub h2.n h.n) h.n ↔ h.n ≤ i ∧ i < h2.n := fun i => by
        rw [mem_upL]; show h.n ≤ i ∧ i < h.n + (h2.n - h.n) ↔ _; omega
      have hbig2 : ∀ i ∈ h2.w ++ upL (Nat.sub h2.n h.n) h.n, i < big := fun i hi => by
        rcases List.mem_append.1 hi with hi | hi
        · have := c3 i hi; omega
        · have := (hup i).1 hi; omega
      refine ⟨h2.w, hmono, rfl, fun id hi hl => ?_, fun id hi hn => ?_⟩
      · simp only [get_putAllT _ _ _ _ hbig2]
        rw [if_neg]
        intro hm
        rcases List.mem_append.1 hm with hm | hm
        · exact hl hm
        · have := (hup id).1 hm; omega
      · simp only [get_putAllT _ _ _ _ hbig2]
        split
        · refine hch.none id hi ?_
          simp only [get_putAllT _ _ _ _ hbig, T.get_leaf, hn]
          split <;> rfl
        · exact hn
    · cases he
theorem evD_fine {call : CallS} (hc : CallOK P call) : ∀ (l : List (Oper × Nat)) (k : Nat) (rs : List Rc) (f f' : FrS) (h h' : EH), f.OK → evD P call ops l k rs f h = some (f', h') → f'.OK ∧ f'.nt = f.nt ∧ ∃ w, Chg h h' w := by
  intro l
  induction l with
  | nil =>
    intro k rs f f' h h' ok he
    have he' : some (f, h) = some (f', h') := he
    simp only [Option.some.injEq, Prod.mk.injEq] at he'
    obtain ⟨rfl, rfl⟩ := he'
    exact ⟨ok, rfl, [], Chg.refl _⟩
  | cons om l ih =>
    obtain ⟨o, m⟩ := om
    intro k rs f f' h h' ok he
    have hput : ∀ v, (f.put o.dst v).nt = f.nt := by
      intro v
      unfold FrS.put
      cases o.dst with
      | none => rfl
      | some d => simp only [forceV_eq]; cases Nat.blt d f.nt <;> simp
    rw [evD_cons] at he
    split at he
    · split at he
      · rename_i v h1 r hone
        obtain ⟨_, he⟩ := bif_some' he
        obtain ⟨w1, c1⟩ := evOne_chg hc hone
        obtain ⟨g1, g2, w2, c2⟩ := ih _ _ _ f' h1 h' (FrS.put_den ok o.dst v).2 he
        exact ⟨g1, by rw [g2, hput], _, c1.trans c2⟩
      · cases he
    · obtain ⟨g1, g2, g3⟩ := ih _ _ _ f' h h' (FrS.put_den ok o.dst undef).2 he
      exact ⟨g1, by rw [g2, hput], g3⟩
theorem evDraw_ok (hm : P.follows .mixedOrders = true) {call : CallS} (hc : CallOK P call) : DrawOK P (evDraw P call) := by
  refine ⟨fun ops f h f' h' ok he => ?_⟩
  unfold evDraw at he
  split at he
  · rename_i l hp
    refine ⟨fun id hb ρ W hok => ?_, evD_fine hc _ _ _ _ _ _ _ ok he⟩
    unfold planD at hp
    split at hp
    · rename_i ms hms
      obtain ⟨c1, hp⟩ := bif_some' hp
      obtain ⟨c2, hp⟩ := bif_some' hp
      simp only [Option.some.injEq] at hp
      obtain ⟨m1, m2⟩ := masksGo_ok (ops := ops) (l := ops.toList) (ms := []) (by intro i o ho; simpa using ho) (by simp) (fun j q hq => by simp at hq) hms
      have hzip : ∀ (j : Nat) (o : Oper) (m : Nat), l[j]? = some (o, m) → ops[j]? = some o ∧ ms[j]? = some m := by
        intro j o m hj
        rw [← hp, List.getElem?_zip_eq_some] at hj
        simpa using hj
      have hlen : l.length = ops.size := by rw [← hp, List.length_zip]; simp [m1]
      obtain ⟨ys, g1, g2, g3, g4, g5, g6, g7⟩ := evD_ok hc c1 l 0 [] [] f f' h h' ok ⟨rfl, fun i r x hr => by simp at hr⟩ rfl (fun i o m hi => by simpa using (hzip i o m hi).1) ⟨ρ, W, hok⟩ hb he
      have hmap : ys.map (·.o) = ops.toList := by
        rw [g2, ← hp]
        rw [List.map_fst_zip]
        simp [m1]
      have hyl : ys.length = ops.size := by rw [← Array.length_toList, ← hmap, List.length_map]
      refine region_of hm g1 hmap (fun j i hd => ?_) g3 (fun i j x y hij hx hy hna => ?_) hb ρ W hok
      · obtain ⟨o, ho, hd'⟩ := hd
        have hj : j < ms.length := by rw [m1]; exact (Array.getElem?_eq_some_iff.1 ho).1
        exact (m2 j _ (List.getElem?_eq_getElem hj)).1 i ⟨o, ho, hd'⟩
      · have hj : j < l.length := by rw [hlen, ← hyl]; exact (List.getElem?_eq_some_iff.1 hy).1
        obtain ⟨om, hom⟩ : ∃ om, l[j]? = some om := ⟨_, List.getElem?_eq_getElem hj⟩
        obtain ⟨o, m⟩ := om
        obtain ⟨z1, z2⟩ := hzip j o m hom
        have hbit : bitB m i = false := by
          cases hbm : bitB m i with
          | false => rfl
          | true => exact absurd ((m2 j m z2).2 i hbm) hna
        have hxo : ops.toList[i]? = some x.o := by rw [← hmap, List.getElem?_map, hx]; rfl
        have hyo : o = y.o := by
          have : ops.toList[j]? = some y.o := by rw [← hmap, List.getElem?_map, hy]; rfl
          rw [Array.getElem?_toList, z1] at this; injection this
        have hs := slotsAll_ok c2 j o m (by rw [hp]; exact hom)
        rw [Nat.zero_add] at hs
        obtain ⟨s1, s2⟩ := slotsOne_ok hs i x.o (by rw [List.getElem?_take, if_pos hij]; exact hxo) (by rw [Nat.zero_add]; exact hbit)
        rw [hyo] at s1 s2
        obtain ⟨d1, d2⟩ := g4 i j x y (o, m) (by omega) (by simpa using hx) hy hom hbit
        exact ⟨⟨d1.cross, slotB_ok s1, d1.val, d1.cells⟩, ⟨d2.cross, slotB_ok s2, d2.val, d2.cells⟩⟩
    · cases hp
  · cases he
end Go.AH
