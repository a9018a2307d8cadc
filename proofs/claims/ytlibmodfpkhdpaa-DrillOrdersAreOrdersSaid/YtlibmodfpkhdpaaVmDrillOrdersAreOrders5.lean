/- A typed evaluator of the model and its soundness, part 5: for every program whose types pass a check. -/
import Derived.Test.YtlibmodfpkhdpaaVmDrillOrdersAreOrders4
/- Chapter 8: the shortest order. -/
namespace Go.VM
/-- to go on with one point -/
def candK (rec : List Bool → Pt → Int × List Int) (u : List Bool) (p a : Pt) (k : Nat) : Int × List Int := (dstZ p a + (rec (u.set k true) a).1, (k : Int) :: (rec (u.set k true) a).2)
def candF (rec : List Bool → Pt → Int × List Int) (u : List Bool) (p : Pt) (a : Pt) (k : Nat) (b : Option (Int × List Int)) : Option (Int × List Int) :=
  bif u.getD k false then b else match b with
    | none => some (candK rec u p a k)
    | some v => bif decide ((candK rec u p a k).1 < v.1) then some (candK rec u p a k) else some v
/-- the first of the shortest ways through what is left -/
def optS (l : List Pt) : Nat → List Bool → Pt → Int × List Int
  | 0, _, _ => (0, [])
  | f + 1, u, p => (foldI (candF (optS l f) u p) l 0 none).getD (0, [])
def optC (l : List Pt) (u : List Bool) (p : Pt) : Int × List Int := optS l (u.count false) u p
theorem count_set1 : ∀ (u : List Bool) (k : Nat), k < u.length → u.getD k false = false → (u.set k true).count false + 1 = u.count false
  | [], _, h, _ => by simp at h
  | b :: u, 0, _, h => by
    have : b = false := by simpa using h
    subst this; simp
  | b :: u, k + 1, h, hk => by
    have := count_set1 u k (by simpa using h) (by simpa using hk)
    cases b <;> simp <;> omega
theorem count_zero {u : List Bool} (h : u.count false = 0) : ∀ k, k < u.length → u.getD k false = true := fun k hk => by
  rw [getD_at hk]
  cases e : u[k] with
  | true => rfl
  | false =>
    have : false ∈ u := e ▸ List.getElem_mem hk
    have := List.count_pos_iff.2 this
    omega
/-- what goes on so far -/
structure CandI (rec : List Bool → Pt → Int × List Int) (l : List Pt) (u : List Bool) (p : Pt) (i : Nat) (v : Int × List Int) : Prop where
  one : ∃ k, k < i ∧ u.getD k false = false ∧ v = candK rec u p (l.getD k pt0) k
  least : ∀ k, k < i → u.getD k false = false → v.1 ≤ (candK rec u p (l.getD k pt0) k).1
theorem cand_inv (rec : List Bool → Pt → Int × List Int) (l : List Pt) (u : List Bool) (p : Pt) {i : Nat} (hi : i ≤ l.length) :
    (foldI (candF rec u p) (l.take i) 0 none = none ∧ ∀ k, k < i → u.getD k false = true) ∨ ∃ v, foldI (candF rec u p) (l.take i) 0 none = some v ∧ CandI rec l u p i v := by
  have := foldI_inv (f := candF rec u p) (fun i b => (b = none ∧ ∀ k, k < i → u.getD k false = true) ∨ ∃ v, b = some v ∧ CandI rec l u p i v) (l.take i) 0 none (.inl ⟨rfl, fun k h => absurd h (Nat.not_lt_zero _)⟩) fun j a b hj hI => by
    have hj' : l[j]? = some a := by
      rw [List.getElem?_take] at hj
      split at hj
      · exact hj
      · cases hj
    have hg : l.getD j pt0 = a := by rw [List.getD_eq_getElem?_getD, hj']; rfl
    rw [Nat.zero_add] at hI ⊢
    unfold candF
    cases hu : u.getD j false with
    | true =>
      rw [cond_true]
      rcases hI with ⟨rfl, h⟩ | ⟨v, rfl, ⟨k, h1, h2, h3⟩, h4⟩
      · exact .inl ⟨rfl, fun k hk => by
          by_cases e : k = j
          · subst e; exact hu
          · exact h k (by omega)⟩
      · exact .inr ⟨v, rfl, ⟨k, by omega, h2, h3⟩, fun k hk hf => by
          by_cases e : k = j
          · subst e; rw [hu] at hf; cases hf
          · exact h4 k (by omega) hf⟩
    | false =>
      rw [cond_false]
      rcases hI with ⟨rfl, h⟩ | ⟨v, rfl, ⟨k, h1, h2, h3⟩, h4⟩
      · refine .inr ⟨_, rfl, ⟨j, by omega, hu, by rw [hg]⟩, fun k hk hf => ?_⟩
        by_cases e : k = j
        · subst e; rw [hg]; exact Int.le_refl _
        · rw [h k (by omega)] at hf; cases hf
      · simp only
        by_cases hc : (candK rec u p a j).1 < v.1
        · rw [decide_eq_true hc, cond_true]
          refine .inr ⟨_, rfl, ⟨j, by omega, hu, by rw [hg]⟩, fun k hk hf => ?_⟩
          by_cases e : k = j
          · subst e; rw [hg]; exact Int.le_refl _
          · have := h4 k (by omega) hf; omega
        · rw [decide_eq_false hc, cond_false]
          refine .inr ⟨v, rfl, ⟨k, by omega, h2, h3⟩, fun k hk hf => ?_⟩
          by_cases e : k = j
          · subst e; rw [hg]; omega
          · exact h4 k (by omega) hf
  rw [Nat.zero_add, List.length_take, Nat.min_eq_left hi] at this
  exact this
structure OptI (l : List Pt) (u : List Bool) (p : Pt) (f : Nat) (v : Int × List Int) : Prop where
  nd : v.2.Nodup
  free : ∀ x, x ∈ v.2 → ∃ k : Nat, x = k ∧ k < l.length ∧ u.getD k false = false
  len : v.2.length = f
  sum : lenP dstZ p (ptsO l v.2) = v.1
  least : ∀ q : List Int, q.Nodup → (∀ x, x ∈ q → ∃ k : Nat, x = k ∧ k < l.length ∧ u.getD k false = false) → q.length = f → v.1 ≤ lenP dstZ p (ptsO l q)
theorem getD_setB {u : List Bool} {k j : Nat} (hk : k < u.length) : (u.set k true).getD j false = false ↔ j ≠ k ∧ u.getD j false = false := by
  rw [getD_set hk]
  by_cases e : j = k
  · simp [e]
  · simp [e]
theorem optS_is (l : List Pt) : ∀ (f : Nat) (u : List Bool) (p : Pt), u.length = l.length → u.count false = f → OptI l u p f (optS l f u p)
  | 0, u, p, hu, hc => by
    have hz := count_zero hc
    refine ⟨List.nodup_nil, fun x hx => (nomatch hx), rfl, rfl, fun q _ _ hq => ?_⟩
    have : q = [] := List.length_eq_zero_iff.1 hq
    subst this
    exact Int.le_refl _
  | f + 1, u, p, hu, hc => by
    have ih := optS_is l f
    obtain ⟨k0, k1, k2⟩ := count_exF u (by omega)
    have hinv := cand_inv (optS l f) l u p (Nat.le_refl _)
    rw [List.take_length] at hinv
    rcases hinv with ⟨_, h2⟩ | ⟨v, e, ⟨k, h1, h2, h3⟩, h4⟩
    · rw [h2 k0 (by omega)] at k2; cases k2
    · have hv : optS l (f + 1) u p = v := by rw [optS, e]; rfl
      rw [hv]
      have hku : k < u.length := by omega
      have hcnt := count_set1 u k hku h2
      have R := ih (u.set k true) (l.getD k pt0) (by simp [hu]) (by omega)
      have e1 : v.1 = dstZ p (l.getD k pt0) + (optS l f (u.set k true) (l.getD k pt0)).1 := by rw [h3]; rfl
      have e2 : v.2 = (k : Int) :: (optS l f (u.set k true) (l.getD k pt0)).2 := by rw [h3]; rfl
      refine ⟨?_, fun x hx => ?_, ?_, ?_, fun q q1 q2 q3 => ?_⟩
      · rw [e2, List.nodup_cons]
        refine ⟨fun c => ?_, R.nd⟩
        obtain ⟨m, m1, m2, m3⟩ := R.free _ c
        have : m = k := by omega
        exact ((getD_setB hku).1 m3).1 this
      · rw [e2] at hx
        rcases List.mem_cons.1 hx with rfl | hx
        · exact ⟨k, rfl, by omega, h2⟩
        · obtain ⟨m, m1, m2, m3⟩ := R.free _ hx
          exact ⟨m, m1, m2, ((getD_setB hku).1 m3).2⟩
      · rw [e2, List.length_cons, R.len]
      · rw [e1, e2, ← R.sum]
        rfl
      · cases q with
        | nil => simp at q3
        | cons x q =>
          obtain ⟨m, m1, m2, m3⟩ := q2 x List.mem_cons_self
          subst m1
          rw [List.nodup_cons] at q1
          have hmu : m < u.length := by omega
          have hcm := count_set1 u m hmu m3
          have R2 := (ih (u.set m true) (l.getD m pt0) (by simp [hu]) (by omega)).least q q1.2 (fun y hy => by
            obtain ⟨j, j1, j2, j3⟩ := q2 y (List.mem_cons_of_mem _ hy)
            exact ⟨j, j1, j2, (getD_setB hmu).2 ⟨fun c => by subst c; subst j1; exact q1.1 hy, j3⟩⟩) (by simpa using q3)
          have L := h4 m m2 m3
          have : (candK (optS l f) u p (l.getD m pt0) m).1 = dstZ p (l.getD m pt0) + (optS l f (u.set m true) (l.getD m pt0)).1 := rfl
          rw [this] at L
          show v.1 ≤ dstZ p (l.getD ((m : Int)).toNat pt0) + lenP dstZ (l.getD ((m : Int)).toNat pt0) (ptsO l q)
          rw [Int.toNat_natCast]
          omega
theorem optC_is {l : List Pt} {u : List Bool} (hu : u.length = l.length) (p : Pt) : OptI l u p (u.count false) (optC l u p) := optS_is l _ u p hu rfl
theorem optC_bound {l : List Pt} {u : List Bool} {p : Pt} (hu : u.length = l.length) (hl : ∀ a, a ∈ l → inR a) (hp : inR p) : 0 ≤ (optC l u p).1 ∧ (optC l u p).1 ≤ 2000000 * ((u.count false : Nat) : Int) := by
  have R := optC_is hu p
  have := lenP_bound (d := dstZ) dst_bound (ptsO l (optC l u p).2) p hp (ptsO_in hl _)
  rw [R.sum] at this
  have e : (ptsO l (optC l u p).2).length = u.count false := by rw [← R.len]; simp [ptsO]
  rw [e] at this
  exact this
/-- one step -/
theorem optC_step {l : List Pt} {u : List Bool} {p : Pt} (hu : u.length = l.length) (h : 0 < u.count false) : ∃ k, foldI (candF (optC l) u p) l 0 none = some (optC l u p) ∧ k < l.length ∧ u.getD k false = false ∧ optC l u p = candK (optC l) u p (l.getD k pt0) k := by
  obtain ⟨f, hf⟩ : ∃ f, u.count false = f + 1 := ⟨u.count false - 1, by omega⟩
  have e : foldI (candF (optC l) u p) l 0 none = foldI (candF (optS l f) u p) l 0 none := by
    have key : ∀ (r : List Pt) (i : Nat) (b : Option (Int × List Int)), i + r.length ≤ u.length → foldI (candF (optC l) u p) r i b = foldI (candF (optS l f) u p) r i b := by
      intro r
      induction r with
      | nil => intro i b _; rfl
      | cons a r ih =>
        intro i b hi
        rw [List.length_cons] at hi
        simp only [foldI]
        have : candF (optC l) u p a i b = candF (optS l f) u p a i b := by
          unfold candF
          cases hui : u.getD i false with
          | true => rfl
          | false =>
            have := count_set1 u i (by omega) hui
            have ee : candK (optC l) u p a i = candK (optS l f) u p a i := by
              unfold candK optC
              rw [show (u.set i true).count false = f by omega]
            rw [ee]
        rw [this]
        exact ih (i + 1) _ (by omega)
    exact key l 0 none (by omega)
  have hinv := cand_inv (optC l) l u p (Nat.le_refl _)
  rw [List.take_length] at hinv
  obtain ⟨k0, k1, k2⟩ := count_exF u h
  rcases hinv with ⟨_, h2⟩ | ⟨v, e2, ⟨k, h1, h2, h3⟩, _⟩
  · rw [h2 k0 (by omega)] at k2; cases k2
  · have hv : optC l u p = v := by
      show optS l (u.count false) u p = v
      rw [hf, optS, ← e, e2]; rfl
    exact ⟨k, by rw [e2, hv], h1, h2, by rw [hv]; exact h3⟩
theorem optC_none {l : List Pt} {u : List Bool} {p : Pt} (h : u.count false = 0) : optC l u p = (0, []) := by
  unfold optC; rw [h]; rfl
/-- a number without one bit -/
def clrB (s k : Nat) : Nat := (BitVec.ofNat 64 s &&& ~~~ BitVec.ofNat 64 (2 ^ k)).toNat
theorem clr_bit {s k j : Nat} (hs : s < 1024) (hk : k < 10) : (clrB s k).testBit j = (s.testBit j && !decide (j = k)) := by
  unfold clrB
  rw [BitVec.testBit_toNat, BitVec.getLsbD_and, BitVec.getLsbD_not, BitVec.getLsbD_ofNat, BitVec.getLsbD_ofNat, Nat.testBit_two_pow]
  by_cases h : j < 64
  · have : decide (j = k) = decide (k = j) := by by_cases e : j = k <;> simp [e, Ne.symm]
    rw [this]; simp [h]
  · have : s.testBit j = false := Nat.testBit_lt_two_pow (Nat.lt_of_lt_of_le hs (by
      have : 2 ^ 10 ≤ 2 ^ j := Nat.pow_le_pow_right (by omega) (by omega)
      omega))
    rw [this]; simp
theorem clr_le {s k : Nat} (hs : s < 1024) (hk : k < 10) : clrB s k ≤ s := Nat.le_of_testBit fun j hj => by
  rw [clr_bit hs hk] at hj
  simp only [Bool.and_eq_true] at hj
  exact hj.1
theorem clr_lt {s k : Nat} (hs : s < 1024) (hk : k < 10) (hb : s.testBit k = true) : clrB s k < s := by
  have h1 := clr_le hs hk
  have h2 : clrB s k ≠ s := fun e => by
    have := clr_bit (j := k) hs hk
    rw [e, hb] at this
    simp at this
  omega
theorem clr_is {s k : Nat} (hs : s < 1024) (hk : k < 10) : wrapI .i64 ((BitVec.toNat (BitVec.ofInt 64 (s : Int) &&& Complement.complement (BitVec.ofInt 64 (wrapI .i64 (1 * (2 ^ min k 64))))) : Nat) : Int) = ((clrB s k : Nat) : Int) := by
  obtain ⟨q, hq⟩ : ∃ q, q = 2 ^ k := ⟨_, rfl⟩
  have h2 : (2 : Int) ^ min k 64 = (q : Int) := by rw [Nat.min_eq_left (by omega), hq]; simp
  have h3 : q ≤ 512 := by
    have : 2 ^ k ≤ 2 ^ 9 := Nat.pow_le_pow_right (by omega) (by omega)
    omega
  rw [Int.one_mul, h2, wrap64 (n := (q : Int)) (by omega) (by omega), hq, BitVec.ofInt_natCast, BitVec.ofInt_natCast]
  show wrapI .i64 ((clrB s k : Nat) : Int) = _
  have := clr_le hs hk
  exact wrap64 (by omega) (by omega)
theorem bit_is {s k : Nat} (hs : s < 1024) (hk : k < 10) : decide (wrapI .i64 ((BitVec.toNat (BitVec.ofInt 64 (Int.fdiv (s : Int) (2 ^ min k 64)) &&& BitVec.ofInt 64 1) : Nat) : Int) = 1) = s.testBit k := by
  have h2 : (2 : Int) ^ min k 64 = ((2 ^ k : Nat) : Int) := by rw [Nat.min_eq_left (by omega)]; simp
  have h1 : BitVec.ofInt 64 1 = BitVec.ofNat 64 1 := rfl
  have h4 : Int.fdiv (s : Int) ((2 ^ k : Nat) : Int) = ((s / 2 ^ k : Nat) : Int) := by
    rw [Int.fdiv_eq_ediv_of_nonneg _ (Int.natCast_nonneg _)]; rfl
  rw [h2, h4, BitVec.ofInt_natCast, h1, BitVec.toNat_and, BitVec.toNat_ofNat, BitVec.toNat_ofNat]
  have h5 : s / 2 ^ k ≤ s := Nat.div_le_self ..
  rw [Nat.mod_eq_of_lt (show s / 2 ^ k < 2 ^ 64 by omega), Nat.mod_eq_of_lt (show 1 < 2 ^ 64 by omega), Nat.and_one_is_mod]
  have h6 : s / 2 ^ k % 2 < 2 := Nat.mod_lt _ (by omega)
  rw [wrap64 (by omega) (by omega), Nat.testBit_eq_decide_div_mod_eq, Bool.eq_iff_iff, decide_eq_true_eq, decide_eq_true_eq]
  omega

/-- the points that are not left -/
def uOf (n s : Nat) : List Bool := (List.range n).map fun k => !s.testBit k
theorem uOf_length (n s : Nat) : (uOf n s).length = n := by simp [uOf]
theorem uOf_at {n s k : Nat} (h : k < n) : (uOf n s).getD k false = !s.testBit k := by
  unfold uOf
  rw [List.getD_eq_getElem?_getD, List.getElem?_map, List.getElem?_range h]
  rfl
theorem uOf_clr {n s k : Nat} (hs : s < 1024) (hk : k < n) (hn : n ≤ 10) : uOf n (clrB s k) = (uOf n s).set k true := by
  refine ext_getD (d := false) (by simp [uOf_length]) fun t ht => ?_
  rw [uOf_length] at ht
  rw [uOf_at ht, getD_set (by rw [uOf_length]; exact hk), uOf_at ht, clr_bit hs (by omega)]
  by_cases e : t = k
  · simp [e]
  · simp [e]
theorem uOf_zero (n : Nat) : (uOf n 0).count false = 0 := by
  rw [List.count_eq_zero]
  intro h
  obtain ⟨k, _, e⟩ := List.mem_map.1 h
  simp at e
theorem uOf_full (n : Nat) : uOf n (2 ^ n - 1) = List.replicate n false := by
  refine ext_getD (d := false) (by simp [uOf_length]) fun t ht => ?_
  rw [uOf_length] at ht
  rw [uOf_at ht, Nat.testBit_two_pow_sub_one, decide_eq_true ht, List.getD_eq_getElem?_getD, List.getElem?_replicate, if_pos ht]
  rfl
theorem uOf_pos {n s : Nat} (h : 0 < s) (hs : s < 2 ^ n) : 0 < (uOf n s).count false := by
  rw [List.count_pos_iff]
  obtain ⟨k, hk⟩ := Nat.exists_testBit_of_ne_zero (x := s) (by omega)
  have hkn : k < n := by
    apply Classical.byContradiction
    intro c
    have : s.testBit k = false := Nat.testBit_lt_two_pow (Nat.lt_of_lt_of_le hs (Nat.pow_le_pow_right (by omega) (by omega)))
    rw [this] at hk; cases hk
  exact List.mem_map.2 ⟨k, List.mem_range.2 hkn, by rw [hk]; rfl⟩
theorem uOf_count (n s : Nat) : (uOf n s).count false ≤ n := by
  have := List.count_le_length (a := false) (l := uOf n s)
  rwa [uOf_length] at this
def rowD (l : List Pt) (s : Nat) : List Int := l.map fun p => (optC l (uOf l.length s) p).1
theorem rowD_at {l : List Pt} {s k : Nat} (h : k < l.length) : (rowD l s).getD k 0 = (optC l (uOf l.length s) l[k]).1 := by
  unfold rowD
  rw [List.getD_eq_getElem?_getD, List.getElem?_map, List.getElem?_eq_getElem h]
  rfl
theorem foldI_snoc {α σ : Type} {f : α → Nat → σ → σ} : ∀ (l : List α) (a : α) (i : Nat) (s : σ), foldI f (l ++ [a]) i s = f a (i + l.length) (foldI f l i s)
  | [], _, _, _ => rfl
  | b :: l, a, i, s => by
    rw [List.cons_append, foldI, foldI, foldI_snoc l a (i + 1), List.length_cons]
    congr 1; omega
theorem foldI_take {α σ : Type} {f : α → Nat → σ → σ} {l : List α} {k : Nat} (h : k < l.length) (s : σ) : foldI f (l.take (k + 1)) 0 s = f l[k] k (foldI f (l.take k) 0 s) := by
  rw [List.take_add_one, List.getElem?_eq_getElem h, Option.toList_some, foldI_snoc, List.length_take, Nat.min_eq_left (by omega), Nat.zero_add]
def encD : Option (Int × List Int) → Int
  | none => -1
  | some v => v.1
def encH : Option (Int × List Int) → Int × Int
  | none => (-1, 0)
  | some v => (v.2.headD 0, v.1)
theorem cand_nn {l : List Pt} {u : List Bool} {p : Pt} {k : Nat} (hu : u.length = l.length) (hl : ∀ a, a ∈ l → inR a) (hp : inR p) (hk : k < l.length) (hn : l.length ≤ 10) : 0 ≤ (candK (optC l) u p l[k] k).1 ∧ (candK (optC l) u p l[k] k).1 ≤ 30000000 := by
  have h1 := dst_bound p l[k] hp (hl _ (List.getElem_mem hk))
  have h2 := optC_bound (u := u.set k true) (p := l[k]) (by simp [hu]) hl (hl _ (List.getElem_mem hk))
  have h3 := List.count_le_length (a := false) (l := u.set k true)
  rw [List.length_set, hu] at h3
  show 0 ≤ dstZ p l[k] + (optC l (u.set k true) l[k]).1 ∧ dstZ p l[k] + (optC l (u.set k true) l[k]).1 ≤ 30000000
  omega
/-! the search -/
abbrev Sea := List Pt × List Bool × List Int × List Int × Int × Unit
structure GoodG (x : Sea) (p : Pt) (sum : Int) : Prop where
  used : x.2.1.length = x.1.length
  few : x.1.length ≤ 10
  pts : ∀ a, a ∈ x.1 → inR a
  p : inR p
  cnt : x.2.2.1.length + x.2.1.count false = x.1.length
  sum0 : 0 ≤ sum
  sum1 : sum ≤ 2000000 * ((x.2.2.1.length : Nat) : Int)
def updG (now best : List Int) (most sum : Int) (v : Int × List Int) : List Int × Int := if most < 0 ∨ sum + v.1 < most then (now ++ v.2, sum + v.1) else (best, most)
def updA (now best : List Int) (most sum : Int) : Option (Int × List Int) → List Int × Int
  | none => (best, most)
  | some v => updG now best most sum v
def resG (x : Sea) (p : Pt) (sum : Int) : Sea := (x.1, (x.2.1, (x.2.2.1, ((updG x.2.2.1 x.2.2.2.1 x.2.2.2.2.1 sum (optC x.1 x.2.1 p)).1, ((updG x.2.2.1 x.2.2.2.1 x.2.2.2.2.1 sum (optC x.1 x.2.1 p)).2, ())))))
theorem upd_step {now best C : List Int} {most sum d D : Int} {k : Nat} {acc : Option (Int × List Int)} (hs : 0 ≤ sum) (ha : ∀ w, acc = some w → 0 ≤ w.1) :
    updG (now ++ [(k : Int)]) (updA now best most sum acc).1 (updA now best most sum acc).2 (sum + d) (D, C) = updA now best most sum (match (generalizing := false) acc with | none => some (d + D, (k : Int) :: C) | some w => bif decide (d + D < w.1) then some (d + D, (k : Int) :: C) else some w) := by
  have e1 : now ++ [(k : Int)] ++ C = now ++ (k : Int) :: C := by rw [List.append_assoc]; rfl
  cases acc with
  | none =>
    simp only [updA, updG, e1, Int.add_assoc]
  | some w =>
    have hw := ha w rfl
    simp only
    by_cases hc : d + D < w.1
    · rw [decide_eq_true hc]
      simp only [cond_true, updA, updG, e1, Int.add_assoc]
      by_cases h1 : most < 0 ∨ sum + w.1 < most
      · simp only [if_pos h1]
        rw [if_pos (show sum + w.1 < 0 ∨ sum + (d + D) < sum + w.1 by omega), if_pos (show most < 0 ∨ sum + (d + D) < most by omega)]
      · simp only [if_neg h1]
    · rw [decide_eq_false hc]
      simp only [cond_false, updA, updG, e1, Int.add_assoc]
      by_cases h1 : most < 0 ∨ sum + w.1 < most
      · simp only [if_pos h1]
        rw [if_neg (show ¬ (sum + w.1 < 0 ∨ sum + (d + D) < sum + w.1) by omega)]
      · simp only [if_neg h1]
        rw [if_neg (show ¬ (most < 0 ∨ sum + (d + D) < most) by omega)]
end Go.VM
