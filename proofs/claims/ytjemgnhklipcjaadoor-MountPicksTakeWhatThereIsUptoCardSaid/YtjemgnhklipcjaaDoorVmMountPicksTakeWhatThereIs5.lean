/- A typed evaluator of the model and its soundness, part 5: for every program whose types pass a check. -/
import Derived.Test.YtjemgnhklipcjaaDoorVmMountPicksTakeWhatThereIs4
/- Chapter 8: the shortest order. -/
namespace Go.VM
/-- to go on with one point -/
def candK (rec : List Bool → Pt → Int × List Int) (u : List Bool) (p a : Pt) (k : Nat) : Int × List Int := (dstZ p a + (rec (u.set k true) a).1, (k : Int) :: (rec (u.set k true) a).2)
def candF (rec : List Bool → Pt → Int × List Int) (u : List Bool) (p : Pt) (a : Pt) (k : Nat) (b : Option (Int × List Int)) : Option (Int × List Int) :=
  bif u.getD k false then b else match b with
    | none => some (candK rec u p a k)
    | some v => bif decide ((candK rec u p a k).1 < v.1) then some (candK rec u p a k) else some v
/-- the first of the shortest ways through what is left -/
def optS (l : List Pt) : Nat → List Bool → Pt → Int × List Int
  | 0, _, _ => (0, [])
  | f + 1, u, p => (foldI (candF (optS l f) u p) l 0 none).getD (0, [])
def optC (l : List Pt) (u : List Bool) (p : Pt) : Int × List Int := optS l (u.count false) u p
theorem count_set1 : ∀ (u : List Bool) (k : Nat), k < u.length → u.getD k false = false → (u.set k true).count false + 1 = u.count false
  | [], _, h, _ => by simp at h
  | b :: u, 0, _, h => by
    have : b = false := by simpa using h
    subst this; simp
  | b :: u, k + 1, h, hk => by
    have := count_set1 u k (by simpa using h) (by simpa using hk)
    cases b <;> simp <;> omega
theorem count_zero {u : List Bool} (h : u.count false = 0) : ∀ k, k < u.length → u.getD k false = true := fun k hk => by
  rw [getD_at hk]
  cases e : u[k] with
  | true => rfl
  | false =>
    have : false ∈ u := e ▸ List.getElem_mem hk
    have := List.count_pos_iff.2 this
    omega
/-- what goes on so far -/
structure CandI (rec : List Bool → Pt → Int × List Int) (l : List Pt) (u : List Bool) (p : Pt) (i : Nat) (v : Int × List Int) : Prop where
  one : ∃ k, k < i ∧ u.getD k false = false ∧ v = candK rec u p (l.getD k pt0) k
  least : ∀ k, k < i → u.getD k false = false → v.1 ≤ (candK rec u p (l.getD k pt0) k).1
theorem cand_inv (rec : List Bool → Pt → Int × List Int) (l : List Pt) (u : List Bool) (p : Pt) {i : Nat} (hi : i ≤ l.length) :
    (foldI (candF rec u p) (l.take i) 0 none = none ∧ ∀ k, k < i → u.getD k false = true) ∨ ∃ v, foldI (candF rec u p) (l.take i) 0 none = some v ∧ CandI rec l u p i v := by
  have := foldI_inv (f := candF rec u p) (fun i b => (b = none ∧ ∀ k, k < i → u.getD k false = true) ∨ ∃ v, b = some v ∧ CandI rec l u p i v) (l.take i) 0 none (.inl ⟨rfl, fun k h => absurd h (Nat.not_lt_zero _)⟩) fun j a b hj hI => by
    have hj' : l[j]? = some a := by
      rw [List.getElem?_take] at hj
      split at hj
      · exact hj
      · cases hj
    have hg : l.getD j pt0 = a := by rw [List.getD_eq_getElem?_getD, hj']; rfl
    rw [Nat.zero_add] at hI ⊢
    unfold candF
    cases hu : u.getD j false with
    | true =>
      rw [cond_true]
      rcases hI with ⟨rfl, h⟩ | ⟨v, rfl, ⟨k, h1, h2, h3⟩, h4⟩
      · exact .inl ⟨rfl, fun k hk => by
          by_cases e : k = j
          · subst e; exact hu
          · exact h k (by omega)⟩
      · exact .inr ⟨v, rfl, ⟨k, by omega, h2, h3⟩, fun k hk hf => by
          by_cases e : k = j
          · subst e; rw [hu] at hf; cases hf
          · exact h4 k (by omega) hf⟩
    | false =>
      rw [cond_false]
      rcases hI with ⟨rfl, h⟩ | ⟨v, rfl, ⟨k, h1, h2, h3⟩, h4⟩
      · refine .inr ⟨_, rfl, ⟨j, by omega, hu, by rw [hg]⟩, fun k hk hf => ?_⟩
        by_cases e : k = j
        · subst e; rw [hg]; exact Int.le_refl _
        · rw [h k (by omega)] at hf; cases hf
      · simp only
        by_cases hc : (candK rec u p a j).1 < v.1
        · rw [decide_eq_true hc, cond_true]
          refine .inr ⟨_, rfl, ⟨j, by omega, hu, by rw [hg]⟩, fun k hk hf => ?_⟩
          by_cases e : k = j
          · subst e; rw [hg]; exact Int.le_refl _
          · have := h4 k (by omega) hf; omega
        · rw [decide_eq_false hc, cond_false]
          refine .inr ⟨v, rfl, ⟨k, by omega, h2, h3⟩, fun k hk hf => ?_⟩
          by_cases e : k = j
          · subst e; rw [hg]; omega
          · exact h4 k (by omega) hf
  rw [Nat.zero_add, List.length_take, Nat.min_eq_left hi] at this
  exact this
structure OptI (l : List Pt) (u : List Bool) (p : Pt) (f : Nat) (v : Int × List Int) : Prop where
  nd : v.2.Nodup
  free : ∀ x, x ∈ v.2 → ∃ k : Nat, x = k ∧ k < l.length ∧ u.getD k false = false
  len : v.2.length = f
  sum : lenP dstZ p (ptsO l v.2) = v.1
  least : ∀ q : List Int, q.Nodup → (∀ x, x ∈ q → ∃ k : Nat, x = k ∧ k < l.length ∧ u.getD k false = false) → q.length = f → v.1 ≤ lenP dstZ p (ptsO l q)
theorem getD_setB {u : List Bool} {k j : Nat} (hk : k < u.length) : (u.set k true).getD j false = false ↔ j ≠ k ∧ u.getD j false = false := by
  rw [getD_set hk]
  by_cases e : j = k
  · simp [e]
  · simp [e]
theorem optS_is (l : List Pt) : ∀ (f : Nat) (u : List Bool) (p : Pt), u.length = l.length → u.count false = f → OptI l u p f (optS l f u p)
  | 0, u, p, hu, hc => by
    have hz := count_zero hc
    refine ⟨List.nodup_nil, fun x hx => (nomatch hx), rfl, rfl, fun q _ _ hq => ?_⟩
    have : q = [] := List.length_eq_zero_iff.1 hq
    subst this
    exact Int.le_refl _
  | f + 1, u, p, hu, hc => by
    have ih := optS_is l f
    obtain ⟨k0, k1, k2⟩ := count_exF u (by omega)
    have hinv := cand_inv (optS l f) l u p (Nat.le_refl _)
    rw [List.take_length] at hinv
    rcases hinv with ⟨_, h2⟩ | ⟨v, e, ⟨k, h1, h2, h3⟩, h4⟩
    · rw [h2 k0 (by omega)] at k2; cases k2
    · have hv : optS l (f + 1) u p = v := by rw [optS, e]; rfl
      rw [hv]
      have hku : k < u.length := by omega
      have hcnt := count_set1 u k hku h2
      have R := ih (u.set k true) (l.getD k pt0) (by simp [hu]) (by omega)
      have e1 : v.1 = dstZ p (l.getD k pt0) + (optS l f (u.set k true) (l.getD k pt0)).1 := by rw [h3]; rfl
      have e2 : v.2 = (k : Int) :: (optS l f (u.set k true) (l.getD k pt0)).2 := by rw [h3]; rfl
      refine ⟨?_, fun x hx => ?_, ?_, ?_, fun q q1 q2 q3 => ?_⟩
      · rw [e2, List.nodup_cons]
        refine ⟨fun c => ?_, R.nd⟩
        obtain ⟨m, m1, m2, m3⟩ := R.free _ c
        have : m = k := by omega
        exact ((getD_setB hku).1 m3).1 this
      · rw [e2] at hx
        rcases List.mem_cons.1 hx with rfl | hx
        · exact ⟨k, rfl, by omega, h2⟩
        · obtain ⟨m, m1, m2, m3⟩ := R.free _ hx
          exact ⟨m, m1, m2, ((getD_setB hku).1 m3).2⟩
      · rw [e2, List.length_cons, R.len]
      · rw [e1, e2, ← R.sum]
        rfl
      · cases q with
        | nil => simp at q3
        | cons x q =>
          obtain ⟨m, m1, m2, m3⟩ := q2 x List.mem_cons_self
          subst m1
          rw [List.nodup_cons] at q1
          have hmu : m < u.length := by omega
          have hcm := count_set1 u m hmu m3
          have R2 := (ih (u.set m true) (l.getD m pt0) (by simp [hu]) (by omega)).least q q1.2 (fun y hy => by
            obtain ⟨j, j1, j2, j3⟩ := q2 y (List.mem_cons_of_mem _ hy)
            exact ⟨j, j1, j2, (getD_setB hmu).2 ⟨fun c => by subst c; subst j1; exact q1.1 hy, j3⟩⟩) (by simpa using q3)
          have L := h4 m m2 m3
          have : (candK (optS l f) u p (l.getD m pt0) m).1 = dstZ p (l.getD m pt0) + (optS l f (u.set m true) (l.getD m pt0)).1 := rfl
          rw [this] at L
          show v.1 ≤ dstZ p (l.getD ((m : Int)).toNat pt0) + lenP dstZ (l.getD ((m : Int)).toNat pt0) (ptsO l q)
          rw [Int.toNat_natCast]
          omega
theorem optC_is {l : List Pt} {u : List Bool} (hu : u.length = l.length) (p : Pt) : OptI l u p (u.count false) (optC l u p) := optS_is l _ u p hu rfl
theorem optC_bound {l : List Pt} {u : List Bool} {p : Pt} (hu : u.length = l.length) (hl : ∀ a, a ∈ l → inR a) (hp : inR p) : 0 ≤ (optC l u p).1 ∧ (optC l u p).1 ≤ 2000000 * ((u.count false : Nat) : Int) := by
  have R := optC_is hu p
  have := lenP_bound (d := dstZ) dst_bound (ptsO l (optC l u p).2) p hp (ptsO_in hl _)
  rw [R.sum] at this
  have e : (ptsO l (optC l u p).2).length = u.count false := by rw [← R.len]; simp [ptsO]
  rw [e] at this
  exact this
/-- one step -/
theorem optC_step {l : List Pt} {u : List Bool} {p : Pt} (hu : u.length = l.length) (h : 0 < u.count false) : ∃ k, foldI (candF (optC l) u p) l 0 none = some (optC l u p) ∧ k < l.length ∧ u.getD k false = false ∧ optC l u p = candK (optC l) u p (l.getD k pt0) k := by
  obtain ⟨f, hf⟩ : ∃ f, u.count false = f + 1 := ⟨u.count false - 1, by omega⟩
  have e : foldI (candF (optC l) u p) l 0 none = foldI (candF (optS l f) u p) l 0 none := by
    have key : ∀ (r : List Pt) (i : Nat) (b : Option (Int × List Int)), i + r.length ≤ u.length → foldI (candF (optC l) u p) r i b = foldI (candF (optS l f) u p) r i b := by
      intro r
      induction r with
      | nil => intro i b _; rfl
      | cons a r ih =>
        intro i b hi
        rw [List.length_cons] at hi
        simp only [foldI]
        have : candF (optC l) u p a i b = candF (optS l f) u p a i b := by
          unfold candF
          cases hui : u.getD i false with
          | true => rfl
          | false =>
            have := count_set1 u i (by omega) hui
            have ee : candK (optC l) u p a i = candK (optS l f) u p a i := by
              unfold candK optC
              rw [show (u.set i true).count false = f by omega]
            rw [ee]
        rw [this]
        exact ih (i + 1) _ (by omega)
    exact key l 0 none (by omega)
  have hinv := cand_inv (optC l) l u p (Nat.le_refl _)
  rw [List.take_length] at hinv
  obtain ⟨k0, k1, k2⟩ := count_exF u h
  rcases hinv with ⟨_, h2⟩ | ⟨v, e2, ⟨k, h1, h2, h3⟩, _⟩
  · rw [h2 k0 (by omega)] at k2; cases k2
  · have hv : optC l u p = v := by
      show optS l (u.count false) u p = v
      rw [hf, optS, ← e, e2]; rfl
    exact ⟨k, by rw [e2, hv], h1, h2, by rw [hv]; exact h3⟩
theorem optC_none {l : List Pt} {u : List Bool} {p : Pt} (h : u.count false = 0) : optC l u p = (0, []) := by
  unfold optC; rw [h]; rfl
/-- a number without one bit -/
def clrB (s k : Nat) : Nat := (BitVec.ofNat 64 s &&& ~~~ BitVec.ofNat 64 (2 ^ k)).toNat
theorem clr_bit {s k j : Nat} (hs : s < 1024) (hk : k < 10) : (clrB s k).testBit j = (s.testBit j && !decide (j = k)) := by
  unfold clrB
  rw [BitVec.testBit_toNat, BitVec.getLsbD_and, BitVec.getLsbD_not, BitVec.getLsbD_ofNat, BitVec.getLsbD_ofNat, Nat.testBit_two_pow]
  by_cases h : j < 64
  · have : decide (j = k) = decide (k = j) := by by_cases e : j = k <;> simp [e, Ne.symm]
    rw [this]; simp [h]
  · have : s.testBit j = false := Nat.testBit_lt_two_pow (Nat.lt_of_lt_of_le hs (by
      have : 2 ^ 10 ≤ 2 ^ j := Nat.pow_le_pow_right (by omega) (by omega)
      omega))
    rw [this]; simp
theorem clr_le {s k : Nat} (hs : s < 1024) (hk : k < 10) : clrB s k ≤ s := Nat.le_of_testBit fun j hj => by
  rw [clr_bit hs hk] at hj
  simp only [Bool.and_eq_true] at hj
  exact hj.1
theorem clr_lt {s k : Nat} (hs : s < 1024) (hk : k < 10) (hb : s.testBit k = true) : clrB s k < s := by
  have h1 := clr_le hs hk
  have h2 : clrB s k ≠ s := fun e => by
    have := clr_bit (j := k) hs hk
    rw [e, hb] at this
    simp at this
  omega
theorem clr_is {s k : Nat} (hs : s < 1024) (hk : k < 10) : wrapI .i64 ((BitVec.toNat (BitVec.ofInt 64 (s : Int) &&& Complement.complement (BitVec.ofInt 64 (wrapI .i64 (1 * (2 ^ min k 64))))) : Nat) : Int) = ((clrB s k : Nat) : Int) := by
  obtain ⟨q, hq⟩ : ∃ q, q = 2 ^ k := ⟨_, rfl⟩
  have h2 : (2 : Int) ^ min k 64 = (q : Int) := by rw [Nat.min_eq_left (by omega), hq]; simp
  have h3 : q ≤ 512 := by
    have : 2 ^ k ≤ 2 ^ 9 := Nat.pow_le_pow_right (by omega) (by omega)
    omega
  rw [Int.one_mul, h2, wrap64 (n := (q : Int)) (by omega) (by omega), hq, BitVec.ofInt_natCast, BitVec.ofInt_natCast]
  show wrapI .i64 ((clrB s k : Nat) : Int) = _
  have := clr_le hs hk
  exact wrap64 (by omega) (by omega)
theorem bit_is {s k : Nat} (hs : s < 1024) (hk : k < 10) : decide (wrapI .i64 ((BitVec.toNat (BitVec.ofInt 64 (Int.fdiv (s : Int) (2 ^ min k 64)) &&& BitVec.ofInt 64 1) : Nat) : Int) = 1) = s.testBit k := by
  have h2 : (2 : Int) ^ min k 64 = ((2 ^ k : Nat) : Int) := by rw [Nat.min_eq_left (by omega)]; simp
  have h1 : BitVec.ofInt 64 1 = BitVec.ofNat 64 1 := rfl
  have h4 : Int.fdiv (s : Int) ((2 ^ k : Nat) : Int) = ((s / 2 ^ k : Nat) : Int) := by
    rw [Int.fdiv_eq_ediv_of_nonneg _ (Int.natCast_nonneg _)]; rfl
  rw [h2, h4, BitVec.ofInt_natCast, h1, BitVec.toNat_and, BitVec.toNat_ofNat, BitVec.toNat_ofNat]
  have h5 : s / 2 ^ k ≤ s := Nat.div_le_self ..
  rw [Nat.mod_eq_of_lt (show s / 2 ^ k < 2 ^ 64 by omega), Nat.mod_eq_of_lt (show 1 < 2 ^ 64 by omega), Nat.and_one_is_mod]
  have h6 : s / 2 ^ k % 2 < 2 := Nat.mod_lt _ (by omega)
  rw [wrap64 (by omega) (by omega), Nat.testBit_eq_decide_div_mod_eq, Bool.eq_iff_iff, decide_eq_true_eq, decide_eq_true_eq]
  omega

/-- the points that are not left -/
def uOf (n s : Nat) : List Bool := (List.range n).map fun k => !s.testBit k
theorem uOf_length (n s : Nat) : (uOf n s).length = n := by simp [uOf]
theorem uOf_at {n s k : Nat} (h : k < n) : (uOf n s).getD k false = !s.testBit k := by
  unfold uOf
  rw [List.getD_eq_getElem?_getD, List.getElem?_map, List.getElem?_range h]
  rfl
theorem uOf_clr {n s k : Nat} (hs : s < 1024) (hk : k < n) (hn : n ≤ 10) : uOf n (clrB s k) = (uOf n s).set k true := by
  refine ext_getD (d := false) (by simp [uOf_length]) fun t ht => ?_
  rw [uOf_length] at ht
  rw [uOf_at ht, getD_set (by rw [uOf_length]; exact hk), uOf_at ht, clr_bit hs (by omega)]
  by_cases e : t = k
  · simp [e]
  · simp [e]
theorem uOf_zero (n : Nat) : (uOf n 0).count false = 0 := by
  rw [List.count_eq_zero]
  intro h
  obtain ⟨k, _, e⟩ := List.mem_map.1 h
  simp at e
theorem uOf_full (n : Nat) : uOf n (2 ^ n - 1) = List.replicate n false := by
  refine ext_getD (d := false) (by simp [uOf_length]) fun t ht => ?_
  rw [uOf_length] at ht
  rw [uOf_at ht, Nat.testBit_two_pow_sub_one, decide_eq_true ht, List.getD_eq_getElem?_getD, List.getElem?_replicate, if_pos ht]
  rfl
theorem uOf_pos {n s : Nat} (h : 0 < s) (hs : s < 2 ^ n) : 0 < (uOf n s).count false := by
  rw [List.count_pos_iff]
  obtain ⟨k, hk⟩ := Nat.exists_testBit_of_ne_zero (x := s) (by omega)
  have hkn : k < n := by
    apply Classical.byContradiction
    intro c
    have : s.testBit k = false := Nat.testBit_lt_two_pow (Nat.lt_of_lt_of_le hs (Nat.pow_le_pow_right (by omega) (by omega)))
    rw [this] at hk; cases hk
  exact List.mem_map.2 ⟨k, List.mem_range.2 hkn, by rw [hk]; rfl⟩
theorem uOf_count (n s : Nat) : (uOf n s).count false ≤ n := by
  have := List.count_le_length (a := false) (l := uOf n s)
  rwa [uOf_length] at this
def rowD (l : List Pt) (s : Nat) : List Int := l.map fun p => (optC l (uOf l.length s) p).1
theorem rowD_at {l : List Pt} {s k : Nat} (h : k < l.length) : (rowD l s).getD k 0 = (optC l (uOf l.length s) l[k]).1 := by
  unfold rowD
  rw [List.getD_eq_getElem?_getD, List.getElem?_map, List.getElem?_eq_getElem h]
  rfl
theorem foldI_snoc {α σ : Type} {f : α → Nat → σ → σ} : ∀ (l : List α) (a : α) (i : Nat) (s : σ), foldI f (l ++ [a]) i s = f a (i + l.length) (foldI f l i s)
  | [], _, _, _ => rfl
  | b :: l, a, i, s => by
    rw [List.cons_append, foldI, foldI, foldI_snoc l a (i + 1), List.length_cons]
    congr 1; omega
theorem foldI_take {α σ : Type} {f : α → Nat → σ → σ} {l : List α} {k : Nat} (h : k < l.length) (s : σ) : foldI f (l.take (k + 1)) 0 s = f l[k] k (foldI f (l.take k) 0 s) := by
  rw [List.take_add_one, List.getElem?_eq_getElem h, Option.toList_some, foldI_snoc, List.length_take, Nat.min_eq_left (by omega), Nat.zero_add]
def encD : Option (Int × List Int) → Int
  | none => -1
  | some v => v.1
def encH : Option (Int × List Int) → Int × Int
  | none => (-1, 0)
  | some v => (v.2.headD 0, v.1)
theorem cand_nn {l : List Pt} {u : List Bool} {p : Pt} {k : Nat} (hu : u.length = l.length) (hl : ∀ a, a ∈ l → inR a) (hp : inR p) (hk : k < l.length) (hn : l.length ≤ 10) : 0 ≤ (candK (optC l) u p l[k] k).1 ∧ (candK (optC l) u p l[k] k).1 ≤ 30000000 := by
  have h1 := dst_bound p l[k] hp (hl _ (List.getElem_mem hk))
  have h2 := optC_bound (u := u.set k true) (p := l[k]) (by simp [hu]) hl (hl _ (List.getElem_mem hk))
  have h3 := List.count_le_length (a := false) (l := u.set k true)
  rw [List.length_set, hu] at h3
  show 0 ≤ dstZ p l[k] + (optC l (u.set k true) l[k]).1 ∧ dstZ p l[k] + (optC l (u.set k true) l[k]).1 ≤ 30000000
  omega
/-! the search -/
abbrev Sea := List Pt × List Bool × List Int × List Int × Int × Unit
structure GoodG (x : Sea) (p : Pt) (sum : Int) : Prop where
  used : x.2.1.length = x.1.length
  few : x.1.length ≤ 10
  pts : ∀ a, a ∈ x.1 → inR a
  p : inR p
  cnt : x.2.2.1.length + x.2.1.count false = x.1.length
  sum0 : 0 ≤ sum
  sum1 : sum ≤ 2000000 * ((x.2.2.1.length : Nat) : Int)
def updG (now best : List Int) (most sum : Int) (v : Int × List Int) : List Int × Int := if most < 0 ∨ sum + v.1 < most then (now ++ v.2, sum + v.1) else (best, most)
def updA (now best : List Int) (most sum : Int) : Option (Int × List Int) → List Int × Int
  | none => (best, most)
  | some v => updG now best most sum v
def resG (x : Sea) (p : Pt) (sum : Int) : Sea := (x.1, (x.2.1, (x.2.2.1, ((updG x.2.2.1 x.2.2.2.1 x.2.2.2.2.1 sum (optC x.1 x.2.1 p)).1, ((updG x.2.2.1 x.2.2.2.1 x.2.2.2.2.1 sum (optC x.1 x.2.1 p)).2, ())))))
theorem upd_step {now best C : List Int} {most sum d D : Int} {k : Nat} {acc : Option (Int × List Int)} (hs : 0 ≤ sum) (ha : ∀ w, acc = some w → 0 ≤ w.1) :
    updG (now ++ [(k : Int)]) (updA now best most sum acc).1 (updA now best most sum acc).2 (sum + d) (D, C) = updA now best most sum (match (generalizing := false) acc with | none => some (d + D, (k : Int) :: C) | some w => bif decide (d + D < w.1) then some (d + D, (k : Int) :: C) else some w) := by
  have e1 : now ++ [(k : Int)] ++ C = now ++ (k : Int) :: C := by rw [List.append_assoc]; rfl
  cases acc with
  | none =>
    simp only [updA, updG, e1, Int.add_assoc]
  | some w =>
    have hw := ha w rfl
    simp only
    by_cases hc : d + D < w.1
    · rw [decide_eq_true hc]
      simp only [cond_true, updA, updG, e1, Int.add_assoc]
      by_cases h1 : most < 0 ∨ sum + w.1 < most
      · simp only [if_pos h1]
        rw [if_pos (show sum + w.1 < 0 ∨ sum + (d + D) < sum + w.1 by omega), if_pos (show most < 0 ∨ sum + (d + D) < most by omega)]
      · simp only [if_neg h1]
    · rw [decide_eq_false hc]
      simp only [cond_false, updA, updG, e1, Int.add_assoc]
      by_cases h1 : most < 0 ∨ sum + w.1 < most
      · simp only [if_pos h1]
        rw [if_neg (show ¬ (sum + w.1 < 0 ∨ sum + (d + D) < sum + w.1) by omega)]
      · simp only [if_neg h1]
        rw [if_neg (show ¬ (most < 0 ∨ sum + (d + D) < most) by omega)]
end Go.VM
/- Chapter 10: lots, orders, the best one. -/
namespace Go.VM
abbrev Lot := ByteArray × Int × Int × Unit
def lot0 : Lot := (strOf [], 0, 0, ())
/-- is it an order? -/
noncomputable def S_isOrd (z : List Int) (n : Int) : Bool := open Classical in decide (IsOrd n.toNat z)
open Classical in
theorem ord_loop {A : Type} {R : Bool → Option A} {z : List Int} {n : Nat} (hz : z.length ≤ maxLen) (hn : n ≤ 4294967296) {N : Nat} (hN : z.length < N) :
    loopN (fun rec1 => fun
    | ((v1aa, ()), (v1ba, ())) =>
      (bif decide ((v1aa < ((z.length : Nat) : Int))) then
        (bif inB v1aa z.length then
          (bif (!(S_within (z.getD v1aa.toNat (0 : Int)) 0 (wrapI .i64 ((n : Int) - 1)))) then
            R false
          else
            (bif inB (z.getD v1aa.toNat (0 : Int)) v1ba.length then
              (bif v1ba.getD ((z.getD v1aa.toNat (0 : Int)).toNat) false then
                R false
              else
                (bif inB (z.getD v1aa.toNat (0 : Int)) v1ba.length then
                  rec1 ((wrapI .i64 (v1aa + 1), ()), (v1ba.set ((z.getD v1aa.toNat (0 : Int)).toNat) true, ()))
                else
                  none))
            else
              none))
        else
          none)
      else
        R (decide ((((z.length : Nat) : Int) = (n : Int))))))
    N ((0, ()), (List.replicate (α := Bool) n false, ())) = R (S_isOrd z n) := by
  have hS : S_isOrd z n = decide (IsOrd n z) := by unfold S_isOrd; rw [Int.toNat_natCast]
  rw [hS]
  refine loop_meas (fun x => ∃ (i : Nat) (u : List Bool), i ≤ z.length ∧ u.length = n ∧ (z.take i).Nodup ∧ (∀ k, k ∈ z.take i → 0 ≤ k ∧ k < (n : Int)) ∧ (∀ k : Nat, k < n → (u.getD k false = true ↔ (k : Int) ∈ z.take i)) ∧ x = (((i : Int), ()), (u, ()))) (fun x => z.length - x.1.1.toNat) _ ?_ N _ ⟨0, List.replicate n false, Nat.zero_le _, by simp, by simp, fun k hk => by simp at hk, fun k hk => by rw [List.getD_eq_getElem?_getD, List.getElem?_replicate, if_pos hk]; simp, rfl⟩ (by show z.length - (0 : Int).toNat < N; omega)
  rintro _ ⟨i, u, h1, h2, h3, h4, h5, rfl⟩
  have w1 : wrapI .i64 ((n : Int) - 1) = (n : Int) - 1 := wrap64 (by omega) (by omega)
  by_cases hi : i < z.length
  · have hmem : z[i] ∈ z := List.getElem_mem hi
    have htk : z.take (i + 1) = z.take i ++ [z[i]] := by rw [List.take_add_one, List.getElem?_eq_getElem hi]; rfl
    by_cases hr : 0 ≤ z[i] ∧ z[i] < (n : Int)
    · obtain ⟨k, hk⟩ : ∃ k : Nat, z[i] = (k : Int) := ⟨z[i].toNat, by omega⟩
      have w2 : S_within (k : Int) 0 ((n : Int) - 1) = true := by
        simp only [S_within, Bool.and_eq_true, decide_eq_true_eq]; omega
      have j1 : inB (k : Int) u.length = true := inB_nat (by omega)
      cases hu : u.getD k false with
      | true =>
        left
        intro rec
        have hin := (h5 k (by omega)).1 hu
        have hno : ¬ IsOrd n z := fun c => by
          have hnd : (z.take (i + 1)).Nodup := c.nd.sublist (List.take_sublist _ _)
          rw [htk, List.nodup_append] at hnd
          exact hnd.2.2 _ hin z[i] (List.mem_singleton.2 rfl) hk.symm
        simp only [lt_nat hi, inB_nat hi, getD_at hi, hk, Int.toNat_natCast, w1, w2, j1, hu, cond_true, cond_false, Bool.not_true, decide_eq_false hno]
      | false =>
        right
        have i1 : wrapI .i64 (((i : Nat) : Int) + 1) = ((i + 1 : Nat) : Int) := succ64 hi hz
        have hni : (k : Int) ∉ z.take i := fun c => by rw [(h5 k (by omega)).2 c] at hu; cases hu
        refine ⟨((((i + 1 : Nat) : Int), ()), (u.set k true, ())), ⟨i + 1, _, hi, by rw [List.length_set]; exact h2, ?_, fun m hm => ?_, fun m hm => ?_, rfl⟩, ?_, fun rec => ?_⟩
        · rw [htk, List.nodup_append]
          refine ⟨h3, by simp, fun x hx y hy => ?_⟩
          rw [List.mem_singleton, hk] at hy
          subst hy
          exact fun c => hni (c ▸ hx)
        · rw [htk] at hm
          rcases List.mem_append.1 hm with hm | hm
          · exact h4 m hm
          · rw [List.mem_singleton] at hm; rw [hm]; exact hr
        · rw [getD_set (by omega), htk, List.mem_append, List.mem_singleton, hk]
          by_cases e : m = k
          · simp [e]
          · rw [if_neg e, h5 m hm]
            constructor
            · exact .inl
            · rintro (h | h)
              · exact h
              · omega
        · show z.length - (((i + 1 : Nat) : Int)).toNat < z.length - ((i : Int)).toNat
          rw [Int.toNat_natCast, Int.toNat_natCast]; omega
        · simp only [lt_nat hi, inB_nat hi, getD_at hi, hk, Int.toNat_natCast, w1, w2, j1, hu, i1, cond_true, cond_false, Bool.not_true]
    · left
      intro rec
      have hno : ¬ IsOrd n z := fun c => hr (c.at_ _ hmem)
      have w2 : S_within z[i] 0 ((n : Int) - 1) = false := by
        unfold S_within
        rw [Bool.and_eq_false_iff, decide_eq_false_iff_not, decide_eq_false_iff_not]; omega
      simp only [lt_nat hi, inB_nat hi, getD_at hi, Int.toNat_natCast, w1, w2, cond_true, Bool.not_false, decide_eq_false hno]
  · left
    intro rec
    obtain rfl : i = z.length := by omega
    rw [List.take_length] at h3 h4
    simp only [lt_self, cond_false]
    congr 1
    rw [Bool.eq_iff_iff, decide_eq_true_eq, decide_eq_true_eq]
    exact ⟨fun h => ⟨h3, h4, by omega⟩, fun h => by rw [h.len]⟩
/-- when the machines are done -/
def mkF (l : List Lot) (s : Int × Int) (k : Int) : Int × Int := (s.1 + (l.getD k.toNat lot0).2.1, maxZ (s.1 + (l.getD k.toNat lot0).2.1) s.2 + (l.getD k.toNat lot0).2.2.1)
def mkS (l : List Lot) (z : List Int) : Int × Int := z.foldl (mkF l) (0, 0)
def mkZ (l : List Lot) (z : List Int) : Int := (mkS l z).2
structure GoodL (l : List Lot) : Prop where
  len : l.length ≤ 200
  at_ : ∀ x, x ∈ l → (0 ≤ x.2.1 ∧ x.2.1 ≤ 1000000) ∧ (0 ≤ x.2.2.1 ∧ x.2.2.1 ≤ 1000000)
theorem GoodL.get {l : List Lot} (h : GoodL l) (k : Nat) : (0 ≤ (l.getD k lot0).2.1 ∧ (l.getD k lot0).2.1 ≤ 1000000) ∧ (0 ≤ (l.getD k lot0).2.2.1 ∧ (l.getD k lot0).2.2.1 ≤ 1000000) := by
  rw [List.getD_eq_getElem?_getD]
  cases e : l[k]? with
  | none => simp [lot0]
  | some a => exact h.at_ a (List.mem_of_getElem? e)
theorem mkS_snoc (l : List Lot) (z : List Int) (k : Int) : mkS l (z ++ [k]) = mkF l (mkS l z) k := by simp [mkS, List.foldl_append]
theorem maxZ_le {a b : Int} : b ≤ maxZ a b ∧ a ≤ maxZ a b ∧ (maxZ a b = a ∨ maxZ a b = b) := by
  unfold maxZ; split
  · exact ⟨Int.le_refl _, by omega, .inr rfl⟩
  · exact ⟨by omega, Int.le_refl _, .inl rfl⟩
theorem mkS_bound {l : List Lot} (h : GoodL l) : ∀ (z : List Int) (s : Int × Int), 0 ≤ s.1 → 0 ≤ s.2 → s.1 ≤ 2000000 * 200 → s.2 ≤ 2000000 * 200 → (0 ≤ (z.foldl (mkF l) s).1 ∧ 0 ≤ (z.foldl (mkF l) s).2) ∧ s.2 ≤ (z.foldl (mkF l) s).2 ∧ (z.foldl (mkF l) s).1 ≤ s.1 + 1000000 * (z.length : Int) ∧ (z.foldl (mkF l) s).2 ≤ maxZ s.1 s.2 + 2000000 * (z.length : Int)
  | [], s, h1, h2, _, _ => ⟨⟨h1, h2⟩, Int.le_refl _, by simp, by have := (maxZ_le (a := s.1) (b := s.2)).1; simp; omega⟩
  | k :: z, s, h1, h2, h3, h4 => by
    obtain ⟨⟨a1, a2⟩, b1, b2⟩ := h.get k.toNat
    have hm := maxZ_le (a := s.1 + (l.getD k.toNat lot0).2.1) (b := s.2)
    have hs := maxZ_le (a := s.1) (b := s.2)
    have e1 : (mkF l s k).1 = s.1 + (l.getD k.toNat lot0).2.1 := rfl
    have e2 : (mkF l s k).2 = maxZ (s.1 + (l.getD k.toNat lot0).2.1) s.2 + (l.getD k.toNat lot0).2.2.1 := rfl
    have key : ∀ t : Int × Int, 0 ≤ t.1 → 0 ≤ t.2 → (0 ≤ (z.foldl (mkF l) t).1 ∧ 0 ≤ (z.foldl (mkF l) t).2) ∧ t.2 ≤ (z.foldl (mkF l) t).2 ∧ (z.foldl (mkF l) t).1 ≤ t.1 + 1000000 * (z.length : Int) ∧ (z.foldl (mkF l) t).2 ≤ maxZ t.1 t.2 + 2000000 * (z.length : Int) := by
      have : ∀ (z : List Int) (t : Int × Int), 0 ≤ t.1 → 0 ≤ t.2 → (0 ≤ (z.foldl (mkF l) t).1 ∧ 0 ≤ (z.foldl (mkF l) t).2) ∧ t.2 ≤ (z.foldl (mkF l) t).2 ∧ (z.foldl (mkF l) t).1 ≤ t.1 + 1000000 * (z.length : Int) ∧ (z.foldl (mkF l) t).2 ≤ maxZ t.1 t.2 + 2000000 * (z.length : Int) := by
        intro z
        induction z with
        | nil => intro t t1 t2; exact ⟨⟨t1, t2⟩, Int.le_refl _, by simp, by have := (maxZ_le (a := t.1) (b := t.2)).1; simp; omega⟩
        | cons j z ih =>
          intro t t1 t2
          obtain ⟨⟨c1, c2⟩, d1, d2⟩ := h.get j.toNat
          have hm := maxZ_le (a := t.1 + (l.getD j.toNat lot0).2.1) (b := t.2)
          have ht := maxZ_le (a := t.1) (b := t.2)
          have f1 : (mkF l t j).1 = t.1 + (l.getD j.toNat lot0).2.1 := rfl
          have f2 : (mkF l t j).2 = maxZ (t.1 + (l.getD j.toNat lot0).2.1) t.2 + (l.getD j.toNat lot0).2.2.1 := rfl
          have hq := maxZ_le (a := (mkF l t j).1) (b := (mkF l t j).2)
          obtain ⟨i1, i2, i3, i4⟩ := ih (mkF l t j) (by omega) (by omega)
          simp only [List.foldl_cons, List.length_cons]
          exact ⟨i1, by omega, by omega, by omega⟩
      exact this z
    have hq := maxZ_le (a := (mkF l s k).1) (b := (mkF l s k).2)
    obtain ⟨i1, i2, i3, i4⟩ := key (mkF l s k) (by omega) (by omega)
    simp only [List.foldl_cons, List.length_cons]
    exact ⟨i1, by omega, by omega, by omega⟩
theorem mk_bound {l : List Lot} (h : GoodL l) (z : List Int) : 0 ≤ (mkS l z).1 ∧ 0 ≤ (mkS l z).2 ∧ (mkS l z).1 ≤ 1000000 * (z.length : Int) ∧ (mkS l z).2 ≤ 2000000 * (z.length : Int) := by
  have := mkS_bound h z (0, 0) (Int.le_refl _) (Int.le_refl _) (by decide) (by decide)
  have e : maxZ (0 : Int) 0 = 0 := by decide
  simp only [e] at this
  unfold mkS
  omega
theorem mk_mono {l : List Lot} (h : GoodL l) (z q : List Int) : mkZ l z ≤ mkZ l (z ++ q) := by
  have hb := mk_bound h z
  unfold mkZ mkS
  rw [List.foldl_append]
  have : ∀ (q : List Int) (t : Int × Int), 0 ≤ t.1 → 0 ≤ t.2 → t.2 ≤ (q.foldl (mkF l) t).2 := by
    intro q
    induction q with
    | nil => intro t _ _; exact Int.le_refl _
    | cons j q ih =>
      intro t t1 t2
      obtain ⟨⟨c1, c2⟩, d1, d2⟩ := h.get j.toNat
      have hm := maxZ_le (a := t.1 + (l.getD j.toNat lot0).2.1) (b := t.2)
      have f1 : (mkF l t j).1 = t.1 + (l.getD j.toNat lot0).2.1 := rfl
      have f2 : (mkF l t j).2 = maxZ (t.1 + (l.getD j.toNat lot0).2.1) t.2 + (l.getD j.toNat lot0).2.2.1 := rfl
      have := ih (mkF l t j) (by omega) (by omega)
      simp only [List.foldl_cons]
      omega
  exact this q _ hb.1 hb.2.1
/-! checks -/
def lotC (l : List Lot) (x : Lot) (i : Nat) : Int :=
  bif !S_word x.1 then 5 else bif !S_within x.2.1 0 1000000 then 1 else bif !S_within x.2.2.1 0 1000000 then 1 else bif (l.take i).any (fun y => decide (y.1 = x.1)) then 7 else 0
def S_lots (l : List Lot) (most : Int) : Int := bif decide (most < (l.length : Int)) then 2 else firstC (lotC l) l 0
theorem lots_good {l : List Lot} {most : Int} (h : S_lots l most = 0) (hm : most ≤ 200) : GoodL l ∧ (l.length : Int) ≤ most := by
  unfold S_lots at h
  cases hd : decide (most < (l.length : Int)) with
  | true => rw [hd] at h; cases h
  | false =>
    rw [hd, cond_false] at h
    have hd := of_decide_eq_false hd
    refine ⟨⟨by omega, fun x hx => ?_⟩, by omega⟩
    obtain ⟨i, hi, rfl⟩ := List.mem_iff_getElem.1 hx
    have := first_zero l 0 h i _ (List.getElem?_eq_getElem hi)
    unfold lotC at this
    cases h1 : S_word l[i].1 with
    | false => rw [h1] at this; cases this
    | true =>
      cases h2 : S_within l[i].2.1 0 1000000 with
      | false => rw [h1, h2] at this; cases this
      | true =>
        cases h3 : S_within l[i].2.2.1 0 1000000 with
        | false => rw [h1, h2, h3] at this; cases this
        | true =>
          simp only [S_within, Bool.and_eq_true, decide_eq_true_eq] at h2 h3
          exact ⟨h2, h3⟩
end Go.VM
/- Chapter 10: the best of all orders. -/
namespace Go.VM
theorem pigeon : ∀ (n : Nat) (z : List Int), (∀ k : Nat, k < n → (k : Int) ∈ z) → n ≤ z.length
  | 0, _, _ => Nat.zero_le _
  | n + 1, z, h => by
    have hm := h n (Nat.lt_succ_self _)
    have := pigeon n (z.erase (n : Int)) fun k hk => (List.mem_erase_of_ne (by omega)).2 (h k (by omega))
    rw [List.length_erase_of_mem hm] at this
    have := List.length_pos_of_mem hm
    omega
def hasB (z : List Int) (k : Int) : Bool := z.any fun a => decide (a = k)
theorem hasB_iff {z : List Int} {k : Int} : hasB z k = true ↔ k ∈ z := by
  unfold hasB
  rw [List.any_eq_true]
  constructor
  · rintro ⟨a, h, e⟩; have := of_decide_eq_true e; subst this; exact h
  · intro h; exact ⟨k, h, decide_eq_true rfl⟩
def candM (rec : List Int → Int × List Int) (now : List Int) (k : Nat) (b : Option (Int × List Int)) : Option (Int × List Int) :=
  bif hasB now k then b else match b with
    | none => some (rec (now ++ [(k : Int)]))
    | some v => bif decide ((rec (now ++ [(k : Int)])).1 < v.1) then some (rec (now ++ [(k : Int)])) else some v
/-- the first of the best ways on -/
def optM (l : List Lot) : Nat → List Int → Int × List Int
  | 0, now => (mkZ l now, now)
  | f + 1, now => (foldN (candM (optM l f) now) l.length 0 none).getD (0, [])
structure OnWay (l : List Lot) (now : List Int) : Prop where
  good : GoodL l
  few : l.length ≤ 8
  nd : now.Nodup
  at_ : ∀ k, k ∈ now → 0 ≤ k ∧ k < (l.length : Int)
theorem OnWay.len {l : List Lot} {now : List Int} (h : OnWay l now) : now.length ≤ l.length := by
  have key : ∀ (n : Nat) (z : List Int), z.Nodup → (∀ k, k ∈ z → 0 ≤ k ∧ k < (n : Int)) → z.length ≤ n := by
    intro n
    induction n with
    | zero =>
      intro z _ h
      cases z with
      | nil => exact Nat.le_refl _
      | cons a r => have := h a List.mem_cons_self; omega
    | succ n ih =>
      intro z hn h
      have := ih (z.erase (n : Int)) (hn.erase _) fun k hk => by
        have h1 := h k (List.mem_of_mem_erase hk)
        have : k ≠ (n : Int) := fun e => by subst e; exact (hn.not_mem_erase) hk
        omega
      have := List.le_length_erase (a := (n : Int)) (l := z)
      omega
  exact key l.length now h.nd h.at_
theorem OnWay.snoc {l : List Lot} {now : List Int} (h : OnWay l now) {k : Nat} (hk : k < l.length) (hn : hasB now k = false) : OnWay l (now ++ [(k : Int)]) := by
  refine ⟨h.good, h.few, ?_, fun x hx => ?_⟩
  · rw [List.nodup_append]
    refine ⟨h.nd, by simp, fun x hx y hy => ?_⟩
    rw [List.mem_singleton] at hy
    subst hy
    intro e
    subst e
    rw [hasB_iff.2 hx] at hn; cases hn
  · rcases List.mem_append.1 hx with hx | hx
    · exact h.at_ x hx
    · rw [List.mem_singleton] at hx; omega
theorem foldN_snoc {σ : Type} {f : Nat → σ → σ} : ∀ (d i : Nat) (s : σ), foldN f (d + 1) i s = f (i + d) (foldN f d i s)
  | 0, i, s => rfl
  | d + 1, i, s => by
    rw [foldN, foldN_snoc d (i + 1), foldN]
    congr 1; omega
/-- what is found so far is one of what was tried -/
theorem candM_inv (rec : List Int → Int × List Int) (now : List Int) : ∀ (i : Nat), (foldN (candM rec now) i 0 none = none ∧ ∀ k : Nat, k < i → (k : Int) ∈ now) ∨ ∃ k : Nat, k < i ∧ hasB now k = false ∧ foldN (candM rec now) i 0 none = some (rec (now ++ [(k : Int)]))
  | 0 => .inl ⟨rfl, fun k h => absurd h (Nat.not_lt_zero _)⟩
  | i + 1 => by
    rw [foldN_snoc, Nat.zero_add]
    unfold candM
    have ih := candM_inv rec now i
    unfold candM at ih
    cases hh : hasB now i with
    | true =>
      rw [cond_true]
      rcases ih with ⟨e, h⟩ | ⟨k, h1, h2, e⟩
      · exact .inl ⟨e, fun k hk => by
          by_cases ek : k = i
          · subst ek; exact hasB_iff.1 hh
          · exact h k (by omega)⟩
      · exact .inr ⟨k, by omega, h2, e⟩
    | false =>
      rw [cond_false]
      rcases ih with ⟨e, h⟩ | ⟨k, h1, h2, e⟩
      · rw [e]; exact .inr ⟨i, by omega, hh, rfl⟩
      · rw [e]
        simp only
        cases decide ((rec (now ++ [(i : Int)])).1 < (rec (now ++ [(k : Int)])).1) with
        | true => exact .inr ⟨i, by omega, hh, rfl⟩
        | false => exact .inr ⟨k, by omega, h2, rfl⟩
theorem optM_is {l : List Lot} : ∀ (f : Nat) (now : List Int), OnWay l now → now.length + f = l.length → ∃ q, optM l f now = (mkZ l (now ++ q), now ++ q) ∧ OnWay l (now ++ q) ∧ (now ++ q).length = l.length
  | 0, now, h, hl => ⟨[], by rw [List.append_nil]; rfl, by rw [List.append_nil]; exact h, by rw [List.append_nil]; omega⟩
  | f + 1, now, h, hl => by
    rcases candM_inv (optM l f) now l.length with ⟨_, h2⟩ | ⟨k, h1, h2, e⟩
    · have := pigeon l.length now h2; omega
    · obtain ⟨q, q1, q2, q3⟩ := optM_is f (now ++ [(k : Int)]) (h.snoc h1 h2) (by rw [List.length_append]; simp; omega)
      refine ⟨(k : Int) :: q, ?_, ?_, ?_⟩
      · rw [optM, e]
        simp only [Option.getD_some]
        rw [q1, List.append_assoc]; rfl
      · rw [List.append_assoc] at q2; exact q2
      · rw [List.append_assoc] at q3; exact q3
theorem optM_nn {l : List Lot} {f : Nat} {now : List Int} (h : OnWay l now) (hl : now.length + f = l.length) : 0 ≤ (optM l f now).1 ∧ mkZ l now ≤ (optM l f now).1 := by
  obtain ⟨q, e, _, _⟩ := optM_is f now h hl
  rw [e]
  have := mk_bound h.good (now ++ q)
  exact ⟨this.2.1, mk_mono h.good now q⟩
def updM (best : List Int) (most : Int) (v : Int × List Int) : List Int × Int := if most < 0 ∨ v.1 < most then (v.2, v.1) else (best, most)
def updMA (best : List Int) (most : Int) : Option (Int × List Int) → List Int × Int
  | none => (best, most)
  | some v => updM best most v
theorem updM_step {best : List Int} {most : Int} {v : Int × List Int} {acc : Option (Int × List Int)} (ha : ∀ w, acc = some w → 0 ≤ w.1) :
    updM (updMA best most acc).1 (updMA best most acc).2 v = updMA best most (match (generalizing := false) acc with | none => some v | some w => bif decide (v.1 < w.1) then some v else some w) := by
  cases acc with
  | none => rfl
  | some w =>
    have hw := ha w rfl
    simp only
    by_cases hc : v.1 < w.1
    · rw [decide_eq_true hc]
      simp only [cond_true, updMA, updM]
      by_cases h1 : most < 0 ∨ w.1 < most
      · simp only [if_pos h1]
        rw [if_pos (show w.1 < 0 ∨ v.1 < w.1 by omega), if_pos (show most < 0 ∨ v.1 < most by omega)]
      · simp only [if_neg h1]
    · rw [decide_eq_false hc]
      simp only [cond_false, updMA, updM]
      by_cases h1 : most < 0 ∨ w.1 < most
      · simp only [if_pos h1]
        rw [if_neg (show ¬ (w.1 < 0 ∨ v.1 < w.1) by omega)]
      · simp only [if_neg h1]
        rw [if_neg (show ¬ (most < 0 ∨ v.1 < most) by omega)]
end Go.VM
/- Chapter 10: bodies and places. -/
namespace Go.VM
abbrev Bod := ByteArray × Int × Int × Int × ByteArray × Unit
abbrev Pla := ByteArray × ByteArray × Pt × Int × Bool × Unit
def bod0 : Bod := (strOf [], 0, 0, 0, strOf [], ())
def pla0 : Pla := (strOf [], strOf [], (0, 0, ()), 0, false, ())
def bodC (b : List Bod) (x : Bod) (i : Nat) : Int :=
  bif !S_word x.1 then 5 else bif !S_within x.2.1 1 100000 then 1 else bif !S_within x.2.2.1 1 100000 then 1 else bif !S_within x.2.2.2.1 1 100000 then 1 else bif !S_word x.2.2.2.2.1 then 5 else
    bif decide (0 < i) then (bif ble x.1 (b.getD (i - 1) bod0).1 then 8 else 0) else 0
def S_bods (b : List Bod) : Int := bif decide ((200 : Int) < (b.length : Int)) then 2 else firstC (bodC b) b 0
theorem bods_loop {A : Type} {R : Int → Option A} {m : List Bod} (hl : m.length ≤ maxLen) {n : Nat} (hn : m.length < n) :
    (bif decide ((200 < ((m.length : Nat) : Int))) then R 2 else
    loopN (fun rec1 => fun
    | ((v1aa, ()), ()) =>
      (bif decide ((v1aa < ((m.length : Nat) : Int))) then
        (bif inB v1aa m.length then
          (bif (!(S_word ((m.getD v1aa.toNat ((strOf []), (0, (0, (0, ((strOf []), ())))))).1))) then
            R 5
          else
            (bif (!(S_within (((m.getD v1aa.toNat ((strOf []), (0, (0, (0, ((strOf []), ())))))).2).1) 1 100000)) then
              R 1
            else
              (bif (!(S_within ((((m.getD v1aa.toNat ((strOf []), (0, (0, (0, ((strOf []), ())))))).2).2).1) 1 100000)) then
                R 1
              else
                (bif (!(S_within (((((m.getD v1aa.toNat ((strOf []), (0, (0, (0, ((strOf []), ())))))).2).2).2).1) 1 100000)) then
                  R 1
                else
                  (bif (!(S_word ((((((m.getD v1aa.toNat ((strOf []), (0, (0, (0, ((strOf []), ())))))).2).2).2).2).1))) then
                    R 5
                  else
                    (bif decide ((0 < v1aa)) then
                      (bif inB (wrapI .i64 (v1aa - 1)) m.length then
                        (bif (Op.bytesLess (ByteArray.toList ((m.getD v1aa.toNat ((strOf []), (0, (0, (0, ((strOf []), ())))))).1)) (ByteArray.toList ((m.getD ((wrapI .i64 (v1aa - 1)).toNat) ((strOf []), (0, (0, (0, ((strOf []), ())))))).1)) || decide ((ByteArray.toList ((m.getD v1aa.toNat ((strOf []), (0, (0, (0, ((strOf []), ())))))).1) = ByteArray.toList ((m.getD ((wrapI .i64 (v1aa - 1)).toNat) ((strOf []), (0, (0, (0, ((strOf []), ())))))).1)))) then
                          R 8
                        else
                          rec1 ((wrapI .i64 (v1aa + 1), ()), ()))
                      else
                        none)
                    else
                      rec1 ((wrapI .i64 (v1aa + 1), ()), ())))))))
        else
          none)
      else
        R 0))
    n ((0, ()), ())) = R (S_bods m) := by
  unfold S_bods
  cases hd : decide ((200 : Int) < (m.length : Int)) with
  | true => rfl
  | false =>
    simp only [cond_false]
    refine (loop_list (l := m) (fun i (_ : Unit) => ((i, ()), ())) (fun a i _ => bif decide (bodC m a i = 0) then .inl () else .inr (R (bodC m a i))) (fun _ => R 0) (fun i h s rec => ?_) (fun s rec => by simp only [lt_self, cond_false]) hn ()).trans ?_
    · simp only [lt_nat h, inB_nat h, getD_lt h, succ64 h hl, cond_true]
      unfold bodC
      cases S_word m[i].1 with
      | false => rfl
      | true =>
      cases S_within m[i].2.1 1 100000 with
      | false => rfl
      | true =>
      cases S_within m[i].2.2.1 1 100000 with
      | false => rfl
      | true =>
      cases S_within m[i].2.2.2.1 1 100000 with
      | false => rfl
      | true =>
      cases S_word m[i].2.2.2.2.1 with
      | false => rfl
      | true =>
        simp only [Bool.not_true, cond_false]
        by_cases h0 : 0 < i
        · have e1 : decide ((0 : Int) < (i : Int)) = true := decide_eq_true (by omega)
          have hl' : m.length ≤ 9223372036854775807 := Nat.le_trans hl (by decide)
          have e2 : wrapI .i64 ((i : Int) - 1) = ((i - 1 : Nat) : Int) := by rw [wrap64 (by omega) (by omega)]; omega
          simp only [e1, e2, decide_eq_true h0, inB_nat (show i - 1 < m.length by omega), cond_true, Int.toNat_natCast]
          change (bif ble m[i].1 (m.getD (i - 1) bod0).1 then _ else _) = _
          cases ble m[i].1 (m.getD (i - 1) bod0).1 <;> rfl
        · have e1 : decide ((0 : Int) < (i : Int)) = false := decide_eq_false (by omega)
          simp only [e1, decide_eq_false h0, cond_false]
          rfl
    · rw [first_go]
      cases h : decide (firstC (bodC m) m 0 = 0) with
      | true => rw [of_decide_eq_true h]; rfl
      | false => rfl
theorem bods_at {b : List Bod} (h : S_bods b = 0) : b.length ≤ 200 ∧ ∀ x, x ∈ b → (1 ≤ x.2.1 ∧ x.2.1 ≤ 100000) ∧ (1 ≤ x.2.2.1 ∧ x.2.2.1 ≤ 100000) := by
  unfold S_bods at h
  cases hd : decide ((200 : Int) < (b.length : Int)) with
  | true => rw [hd] at h; cases h
  | false =>
    rw [hd, cond_false] at h
    have hd := of_decide_eq_false hd
    refine ⟨by omega, fun x hx => ?_⟩
    obtain ⟨i, hi, rfl⟩ := List.mem_iff_getElem.1 hx
    have := first_zero b 0 h i _ (List.getElem?_eq_getElem hi)
    unfold bodC at this
    cases h1 : S_word b[i].1 with
    | false => rw [h1] at this; cases this
    | true =>
      cases h2 : S_within b[i].2.1 1 100000 with
      | false => rw [h1, h2] at this; cases this
      | true =>
        cases h3 : S_within b[i].2.2.1 1 100000 with
        | false => rw [h1, h2, h3] at this; cases this
        | true =>
          simp only [S_within, Bool.and_eq_true, decide_eq_true_eq] at h2 h3
          exact ⟨h2, h3⟩
/-! the body of a type, by halves -/
def S_thereB (b : List Bod) (t : ByteArray) : Bool := bsF (fun a : Bod => S_cmps a.1 t) b bod0
def S_bodP (b : List Bod) (t : ByteArray) : Bod := bif S_thereB b t then b.getD (bsI (fun a : Bod => S_cmps a.1 t) b bod0) bod0 else bod0
theorem thereB_lt {b : List Bod} {t : ByteArray} (h : S_thereB b t = true) : bsI (fun a : Bod => S_cmps a.1 t) b bod0 < b.length := by
  simp only [S_thereB, bsF, Bool.and_eq_true, decide_eq_true_eq] at h
  exact h.1
theorem bodP_in {b : List Bod} {t : ByteArray} : S_bodP b t = bod0 ∨ S_bodP b t ∈ b := by
  unfold S_bodP
  cases h : S_thereB b t with
  | false => exact .inl rfl
  | true =>
    right
    rw [cond_true, getD_at (thereB_lt h)]
    exact List.getElem_mem _
/-! pieces between bytes -/
def splitB (ix : ByteArray → Int) : Nat → ByteArray → List ByteArray
  | 0, s => [s]
  | k + 1, s => bif decide (ix s < 0) then [s] else s.extract 0 (ix s).toNat :: splitB ix k (s.extract ((ix s).toNat + 1) s.size)
theorem splitB_len (ix : ByteArray → Int) : ∀ (k : Nat) (s : ByteArray), 1 ≤ (splitB ix k s).length ∧ (splitB ix k s).length ≤ k + 1
  | 0, s => ⟨Nat.le_refl _, Nat.le_refl _⟩
  | k + 1, s => by
    rw [splitB]
    cases decide (ix s < 0) with
    | true => rw [cond_true]; simp
    | false =>
      have := splitB_len ix k (s.extract ((ix s).toNat + 1) s.size)
      rw [cond_false, List.length_cons]; omega
/-- where a separator of one byte comes first -/
def idx1 (sep s : ByteArray) : Int := bif decide (sep.toList = s.toList) then 0 else S_idx s (strAt sep 0)
theorem firstIdx_lt (s : ByteArray) (c : UInt8) : firstIdx s c < s.size := by
  unfold firstIdx
  cases h : (List.range s.size).find? fun i => s[i]! == c with
  | none => simp only; omega
  | some i =>
    have := List.mem_range.1 (List.mem_of_find?_eq_some h)
    simp only; omega
theorem idx1_lt {sep s : ByteArray} (hs : sep.size = 1) : idx1 sep s < s.size := by
  unfold idx1
  by_cases h : sep.toList = s.toList
  · rw [decide_eq_true h, cond_true, ← bytes_eq h, hs]; decide
  · rw [decide_eq_false h, cond_false]
    unfold S_idx
    exact firstIdx_lt _ _
def S_split (s sep : ByteArray) : List ByteArray := splitB (idx1 sep) (S_cnt s (strAt sep 0)).toNat s
theorem cnt_le (s : ByteArray) (c : Int) : 0 ≤ S_cnt s c ∧ S_cnt s c ≤ s.size := by
  unfold S_cnt Lib.countByte
  have := List.count_le_length (a := c.toNat.toUInt8) (l := s.data.toList)
  have e : s.data.toList.length = s.size := by rw [Array.length_toList]; rfl
  omega
def S_path (s : ByteArray) : Bool := decide (s.size ≤ 200) && (S_split s (strOf [47])).all S_word
def isPtV (p : Pt) : Bool := S_within p.1 (-1000000) 1000000 && S_within p.2.1 (-1000000) 1000000
def plaC (th : ByteArray → Bool) (l : List Pla) (p : Pla) (i : Nat) : Int :=
  bif !S_path p.1 then 5 else bif !th p.2.1 then 9 else bif !isPtV p.2.2.1 then 1 else bif !S_within p.2.2.2.1 0 3 then 1 else
    bif decide (0 < i) then (bif ble p.1 (l.getD (i - 1) pla0).1 then 8 else 0) else 0
def S_plas (b : List Bod) (l : List Pla) : Int := bif decide (S_bods b = 0) then (bif decide ((1000 : Int) < (l.length : Int)) then 2 else firstC (plaC (S_thereB b) l) l 0) else S_bods b
theorem plas_at {b : List Bod} {l : List Pla} (h : S_plas b l = 0) : S_bods b = 0 ∧ l.length ≤ 1000 ∧ ∀ p, p ∈ l → S_path p.1 = true ∧ S_thereB b p.2.1 = true ∧ inR p.2.2.1 ∧ (0 ≤ p.2.2.2.1 ∧ p.2.2.2.1 ≤ 3) := by
  unfold S_plas at h
  cases hb : decide (S_bods b = 0) with
  | false => rw [hb, cond_false] at h; rw [decide_eq_true h] at hb; cases hb
  | true =>
    rw [hb, cond_true] at h
    cases hd : decide ((1000 : Int) < (l.length : Int)) with
    | true => rw [hd] at h; cases h
    | false =>
      rw [hd, cond_false] at h
      have hd := of_decide_eq_false hd
      refine ⟨of_decide_eq_true hb, by omega, fun x hx => ?_⟩
      obtain ⟨i, hi, rfl⟩ := List.mem_iff_getElem.1 hx
      have := first_zero l 0 h i _ (List.getElem?_eq_getElem hi)
      unfold plaC at this
      cases h1 : S_path l[i].1 with
      | false => rw [h1] at this; cases this
      | true =>
        cases h2 : S_thereB b l[i].2.1 with
        | false => rw [h1, h2] at this; cases this
        | true =>
          cases h3 : isPtV l[i].2.2.1 with
          | false => rw [h1, h2, h3] at this; cases this
          | true =>
            cases h4 : S_within l[i].2.2.2.1 0 3 with
            | false => rw [h1, h2, h3, h4] at this; cases this
            | true =>
              simp only [isPtV, S_within, Bool.and_eq_true, decide_eq_true_eq] at h3 h4
              exact ⟨rfl, rfl, ⟨h3.1.1, h3.1.2, h3.2.1, h3.2.2⟩, h4⟩
/-! the rectangles of parts -/
abbrev Rec4 := Int × Int × Int × Int × Unit
def tkW (b : List Bod) (p : Pla) : Int := bif decide (Int.tmod p.2.2.2.1 2 = 1) then (S_bodP b p.2.1).2.2.1 else (S_bodP b p.2.1).2.1
def tkH (b : List Bod) (p : Pla) : Int := bif decide (Int.tmod p.2.2.2.1 2 = 1) then (S_bodP b p.2.1).2.1 else (S_bodP b p.2.1).2.2.1
def tkZ (b : List Bod) (p : Pla) : Rec4 := (p.2.2.1.1 - Int.tdiv (tkW b p) 2, p.2.2.1.2.1 - Int.tdiv (tkH b p) 2, p.2.2.1.1 - Int.tdiv (tkW b p) 2 + tkW b p, p.2.2.1.2.1 - Int.tdiv (tkH b p) 2 + tkH b p, ())
theorem tk_bound {b : List Bod} (h : S_bods b = 0) (p : Pla) : (0 ≤ tkW b p ∧ tkW b p ≤ 100000) ∧ (0 ≤ tkH b p ∧ tkH b p ≤ 100000) := by
  have hb : (0 ≤ (S_bodP b p.2.1).2.1 ∧ (S_bodP b p.2.1).2.1 ≤ 100000) ∧ (0 ≤ (S_bodP b p.2.1).2.2.1 ∧ (S_bodP b p.2.1).2.2.1 ≤ 100000) := by
    rcases bodP_in (b := b) (t := p.2.1) with e | e
    · rw [e]; simp [bod0]
    · have := (bods_at h).2 _ e
      omega
  unfold tkW tkH
  cases decide (Int.tmod p.2.2.2.1 2 = 1) with
  | true => exact ⟨hb.2, hb.1⟩
  | false => exact hb
def okRec (r : Rec4) : Prop := (-1200000 ≤ r.1 ∧ r.1 ≤ 1200000) ∧ (-1200000 ≤ r.2.1 ∧ r.2.1 ≤ 1200000) ∧ (-1200000 ≤ r.2.2.1 ∧ r.2.2.1 ≤ 1200000) ∧ (-1200000 ≤ r.2.2.2.1 ∧ r.2.2.2.1 ≤ 1200000)
theorem half_bound {w : Int} (h : 0 ≤ w ∧ w ≤ 100000) : 0 ≤ Int.tdiv w 2 ∧ Int.tdiv w 2 ≤ 50000 := by
  rw [Int.tdiv_eq_ediv_of_nonneg h.1]; omega
theorem tk_ok {b : List Bod} (h : S_bods b = 0) {p : Pla} (hp : inR p.2.2.1) : okRec (tkZ b p) := by
  obtain ⟨h1, h2⟩ := tk_bound h p
  have h3 := half_bound h1
  have h4 := half_bound h2
  obtain ⟨p1, p2, p3, p4⟩ := hp
  unfold okRec tkZ
  simp only
  omega
def mx (a b : Int) : Int := bif decide (a < b) then b else a
def rgap (r s : Rec4) : Int := mx (mx (mx (r.1 - s.2.2.1) (s.1 - r.2.2.1)) (r.2.1 - s.2.2.2.1)) (s.2.1 - r.2.2.2.1)
def dstR (r s : Rec4) : Int := bif decide (rgap r s < 0) then -1 else rgap r s
def colF (d : Pla → Pla → Int) (gap : Int) (i : Nat) (a q : Pla) (k : Nat) (o : List Pr) : List Pr :=
  bif (q.2.2.2.2.1 == a.2.2.2.2.1) && decide (d a q < gap) then o ++ [((i : Int), ((k : Int), (d a q, ())))] else o
def colL (d : Pla → Pla → Int) (l : List Pla) (gap : Int) : List Pr := foldI (fun a i o => foldI (colF d gap i a) (l.drop (i + 1)) (i + 1) o) l 0 []
theorem colF_len {d : Pla → Pla → Int} {gap : Int} {i : Nat} {a q : Pla} {k : Nat} {o : List Pr} : (colF d gap i a q k o).length ≤ o.length + 1 := by
  unfold colF
  cases (q.2.2.2.2.1 == a.2.2.2.2.1) && decide (d a q < gap) <;> simp
def S_colE (b : List Bod) (l : List Pla) (gap : Int) : Int := bif decide (S_plas b l = 0) then (bif S_within gap 0 100000 then 0 else 1) else S_plas b l
def S_col (b : List Bod) (l : List Pla) (gap : Int) : List Pr := bif decide (S_colE b l gap = 0) then colL (fun p q => dstR (tkZ b p) (tkZ b q)) l gap else []
/-! all places moved -/
def movW (by_ : Pt) (p : Pla) : Pla := (p.1, p.2.1, (wrapI .i64 (p.2.2.1.1 + by_.1), wrapI .i64 (p.2.2.1.2.1 + by_.2.1), ()), p.2.2.2)
theorem foldI_map {α β σ : Type} {f : β → Nat → σ → σ} {g : α → β} : ∀ (l : List α) (i : Nat) (s : σ), foldI f (l.map g) i s = foldI (fun a i s => f (g a) i s) l i s
  | [], _, _ => rfl
  | a :: r, i, s => foldI_map r (i + 1) _
theorem mov_dst {b : List Bod} {p q : Pla} {by_ : Pt} (hp : inR p.2.2.1) (hq : inR q.2.2.1) (hb : inR by_) : dstR (tkZ b (movW by_ p)) (tkZ b (movW by_ q)) = dstR (tkZ b p) (tkZ b q) := by
  obtain ⟨p1, p2, p3, p4⟩ := hp
  obtain ⟨q1, q2, q3, q4⟩ := hq
  obtain ⟨b1, b2, b3, b4⟩ := hb
  have w1 : tkW b (movW by_ p) = tkW b p := rfl
  have w2 : tkH b (movW by_ p) = tkH b p := rfl
  have w3 : tkW b (movW by_ q) = tkW b q := rfl
  have w4 : tkH b (movW by_ q) = tkH b q := rfl
  have x1 : (movW by_ p).2.2.1.1 = p.2.2.1.1 + by_.1 := wrap64 (by omega) (by omega)
  have x2 : (movW by_ p).2.2.1.2.1 = p.2.2.1.2.1 + by_.2.1 := wrap64 (by omega) (by omega)
  have x3 : (movW by_ q).2.2.1.1 = q.2.2.1.1 + by_.1 := wrap64 (by omega) (by omega)
  have x4 : (movW by_ q).2.2.1.2.1 = q.2.2.1.2.1 + by_.2.1 := wrap64 (by omega) (by omega)
  have e : rgap (tkZ b (movW by_ p)) (tkZ b (movW by_ q)) = rgap (tkZ b p) (tkZ b q) := by
    unfold rgap tkZ
    simp only [w1, w2, w3, w4, x1, x2, x3, x4]
    rw [show p.2.2.1.1 + by_.1 - Int.tdiv (tkW b p) 2 - (q.2.2.1.1 + by_.1 - Int.tdiv (tkW b q) 2 + tkW b q) = p.2.2.1.1 - Int.tdiv (tkW b p) 2 - (q.2.2.1.1 - Int.tdiv (tkW b q) 2 + tkW b q) by omega,
      show q.2.2.1.1 + by_.1 - Int.tdiv (tkW b q) 2 - (p.2.2.1.1 + by_.1 - Int.tdiv (tkW b p) 2 + tkW b p) = q.2.2.1.1 - Int.tdiv (tkW b q) 2 - (p.2.2.1.1 - Int.tdiv (tkW b p) 2 + tkW b p) by omega,
      show p.2.2.1.2.1 + by_.2.1 - Int.tdiv (tkH b p) 2 - (q.2.2.1.2.1 + by_.2.1 - Int.tdiv (tkH b q) 2 + tkH b q) = p.2.2.1.2.1 - Int.tdiv (tkH b p) 2 - (q.2.2.1.2.1 - Int.tdiv (tkH b q) 2 + tkH b q) by omega,
      show q.2.2.1.2.1 + by_.2.1 - Int.tdiv (tkH b q) 2 - (p.2.2.1.2.1 + by_.2.1 - Int.tdiv (tkH b p) 2 + tkH b p) = q.2.2.1.2.1 - Int.tdiv (tkH b q) 2 - (p.2.2.1.2.1 - Int.tdiv (tkH b p) 2 + tkH b p) by omega]
  unfold dstR
  rw [e]
theorem mov_col {b : List Bod} {l : List Pla} {gap : Int} {by_ : Pt} (hb : inR by_) (h1 : S_colE b l gap = 0) (h2 : S_colE b (l.map (movW by_)) gap = 0) : S_col b l gap = S_col b (l.map (movW by_)) gap := by
  have hp : S_plas b l = 0 := by
    unfold S_colE at h1
    cases hd : decide (S_plas b l = 0) with
    | true => exact of_decide_eq_true hd
    | false => rw [hd, cond_false] at h1; exact h1
  have hat := (plas_at hp).2.2
  unfold S_col
  rw [h1, h2]
  unfold colL
  simp only [decide_true, cond_true]
  rw [foldI_map]
  refine foldI_congr l 0 [] fun a ha i s => ?_
  rw [← List.map_drop, foldI_map]
  refine foldI_congr (l.drop (i + 1)) (i + 1) s fun q hq k o => ?_
  unfold colF
  change (bif (q.2.2.2.2.1 == a.2.2.2.2.1) && decide (dstR (tkZ b a) (tkZ b q) < gap) then o ++ [((i : Int), ((k : Int), (dstR (tkZ b a) (tkZ b q), ())))] else o) = (bif (q.2.2.2.2.1 == a.2.2.2.2.1) && decide (dstR (tkZ b (movW by_ a)) (tkZ b (movW by_ q)) < gap) then o ++ [((i : Int), ((k : Int), (dstR (tkZ b (movW by_ a)) (tkZ b (movW by_ q)), ())))] else o)
  rw [mov_dst (hat a ha).2.2.1 (hat q (List.mem_of_mem_drop hq)).2.2.1 hb]
theorem col_bad {b : List Bod} {l : List Pla} {gap : Int} (h : S_colE b l gap ≠ 0) : S_col b l gap = [] := by
  unfold S_col; rw [decide_eq_false h]; rfl
end Go.VM
/- The glue, part 5: rows of arguments that are not too large together. -/
namespace Go.VM
open Go.ChangeShapes Go.WideShapes Go.ChangeAt Go.RowKit
/-- strings and slices of at most so many -/
def Sml (M : Nat) : (t : Ty) → t.den → Prop
  | .str, x => (show ByteArray from x).size ≤ M
  | .pair a b, x => Sml M a x.1 ∧ Sml M b x.2
  | .sl e, l => List.length l ≤ M ∧ ∀ y, y ∈ (show List e.den from l) → Sml M e y
  | _, _ => True
theorem Sml.mono' {M N : Nat} (h : M ≤ N) : ∀ {t : Ty} {x : t.den}, Sml M t x → Sml N t x
  | .int _, _, _ => by simp only [Sml]
  | .bool, _, _ => by simp only [Sml]
  | .unit, _, _ => by simp only [Sml]
  | .arr _ _, _, _ => by simp only [Sml]
  | .mp _ _, _, _ => by simp only [Sml]
  | .str, x, s => by simp only [Sml] at s ⊢; omega
  | .pair a b, x, s => by simp only [Sml] at s ⊢; exact ⟨Sml.mono' h s.1, Sml.mono' h s.2⟩
  | .sl e, l, s => by simp only [Sml] at s ⊢; exact ⟨by omega, fun y hy => Sml.mono' h (s.2 y hy)⟩
theorem Sml.mono {M N : Nat} {t : Ty} {x : t.den} (s : Sml M t x) (h : M ≤ N) : Sml N t x := Sml.mono' h s
/-- how much a reading holds -/
structure IsBulk {H : Type} (bk : DataW H → Nat) (bks : List (DataW H) → Nat) : Prop where
  str : ∀ b, bk (.lit (.string b)) = b.length + 1
  sl : ∀ e s, bk (.slice e s) = bks e + bks s + 1
  agg : ∀ p, bk (.agg p) = bks p + 1
  nil : bks [] = 0
  cons : ∀ d r, bks (d :: r) = bk d + bks r
  one : ∀ d, 1 ≤ bk d
variable {H : Type} {bk : DataW H → Nat} {bks : List (DataW H) → Nat}
theorem IsBulk.part_le (IB : IsBulk bk bks) {d : DataW H} : ∀ {l : List (DataW H)}, d ∈ l → bk d ≤ bks l
  | x :: r, h => by
    rw [IB.cons]
    rcases List.mem_cons.1 h with rfl | h
    · omega
    · have := IB.part_le h; omega
theorem IsBulk.length_le (IB : IsBulk bk bks) : ∀ (l : List (DataW H)), l.length ≤ bks l
  | [] => Nat.zero_le _
  | x :: r => by
    have := IB.length_le r
    have := IB.one x
    rw [IB.cons, List.length_cons]; omega
variable {P : Program} {ty : Types}
theorem trod_repS (tok : TyOK P ty) {enc : TypeId × Value → H} {w : World} {base : Nat} {spare : Nat → Bool} {held : Bool} {bk : DataW H → Nat} {bks : List (DataW H) → Nat} (IB : IsBulk bk bks) : ∀ (fuel : Nat) (t : Ty) (T : Nat) (cs : List Value) (d : DataW H) (ps : List MemPlace), ty.ty T = some t → t.plain = true → DataW.trod enc P w base spare held fuel T cs = some (d, ps) →
    ∃ x : t.den, RepC w (olds w) t x cs ∧ Fine t x ∧ Sml (bk d) t x := by
  intro fuel
  induction fuel with
  | zero => intro t T cs d ps _ _ h; cases h
  | succ fuel ih =>
    intro t T cs d ps hT hp h
    have hd := tok.desc T t hT
    -- a row of fields
    have rows : ∀ (u : Ty) (fs : List Field) (off : Nat) (cs : List Value) (xs : List (DataW H × List MemPlace)), FitF ty fs off u → u.plain = true → off + u.size = cs.length → (fs.mapM fun f => DataW.trod enc P w base spare held fuel f.type ((cs.drop f.offset).take (P.cellsOf f.type))) = some xs →
        ∃ x : u.den, RepC w (olds w) u x (cs.drop off) ∧ Fine u x ∧ Sml (bks (xs.map (·.1))) u x := by
      intro u
      induction u with
      | unit =>
        intro fs off cs xs hf _ hl _
        cases fs <;> simp only [FitF] at hf
        simp only [Ty.size, Nat.add_zero] at hl
        exact ⟨(), by simp only [RepC]; exact List.drop_eq_nil_of_le (by omega), by simp only [Fine], by simp only [Sml]⟩
      | pair a b iha ihb =>
        intro fs off cs xs hf hp hl hx
        cases fs with
        | nil => simp only [FitF] at hf
        | cons F r =>
          simp only [FitF] at hf
          obtain ⟨f1, f2, f3⟩ := hf
          simp only [Ty.plain, Bool.and_eq_true] at hp
          simp only [Ty.size] at hl
          rw [List.mapM_cons] at hx
          simp only [Option.bind_eq_bind, Option.bind_eq_some_iff, Option.pure_def, Option.some.injEq] at hx
          obtain ⟨⟨d1, p1⟩, h1, xs', h2, hxe⟩ := hx
          subst hxe
          rw [f1, size_cellsOf tok f2] at h1
          obtain ⟨x, rx, fx, sx⟩ := ih a F.type _ d1 p1 f2 hp.1 h1
          obtain ⟨y, ry, fy, sy⟩ := ihb r (off + a.size) cs xs' f3 hp.2 (by omega) h2
          have hbk : bks ((((d1, p1) :: xs').map (·.1))) = bk d1 + bks (xs'.map (·.1)) := IB.cons _ _
          refine ⟨(x, y), ?_, by simp only [Fine]; exact ⟨fx, fy⟩, by simp only [Sml]; rw [hbk]; exact ⟨sx.mono (by omega), sy.mono (by omega)⟩⟩
          simp only [RepC]
          refine ⟨_, _, ?_, rx, ry⟩
          rw [← List.drop_drop]; exact (List.take_append_drop _ _).symm
      | _ => intro fs off cs xs hf _ _ _; cases fs <;> simp only [FitF] at hf
    have struct : ∀ fs, P.underlying T = some (.struct fs) → FitF ty fs.toList 0 t → ∃ x : t.den, RepC w (olds w) t x cs ∧ Fine t x ∧ Sml (bk d) t x := by
      intro fs hu hfit
      simp only [DataW.trod, hu] at h
      split at h
      · rename_i hl
        simp only [Option.map_eq_some_iff] at h
        obtain ⟨xs, hx, hxe⟩ := h
        rw [size_cellsOf tok hT] at hl
        obtain ⟨x, r1, r2, r3⟩ := rows t fs.toList 0 cs xs hfit hp (by omega) hx
        cases hxe
        rw [IB.agg]
        exact ⟨x, by simpa using r1, r2, r3.mono (by omega)⟩
      · cases h
    cases t with
    | int k =>
      simp only [FitD] at hd
      simp only [DataW.trod, hd] at h
      split at h
      all_goals first
        | (rename_i hu; cases hu; done)
        | (cases h; done)
        | skip
      rename_i k0 k1 n hu
      simp only [Option.some.injEq, TypeDesc.int.injEq] at hu
      subst hu
      split at h
      · rename_i e2
        obtain ⟨rfl, e3⟩ := e2
        exact ⟨n, by simp only [RepC], by simp only [Fine]; exact e3, by simp only [Sml]⟩
      · cases h
    | bool =>
      simp only [FitD] at hd
      simp only [DataW.trod, hd] at h
      split at h
      all_goals first
        | (rename_i hu; cases hu; done)
        | (cases h; done)
        | skip
      rename_i b hu
      exact ⟨b, by simp only [RepC], by simp only [Fine], by simp only [Sml]⟩
    | str =>
      simp only [FitD] at hd
      simp only [DataW.trod, hd] at h
      split at h
      all_goals first
        | (rename_i hu; cases hu; done)
        | (cases h; done)
        | skip
      rename_i b hu
      split at h
      · rename_i hm
        cases h
        exact ⟨b, by simp only [RepC]; exact ⟨trivial, hm⟩, by simp only [Fine]; exact hm, by
          simp only [Sml]; rw [IB.str]
          have e : b.data.toList.length = b.size := by rw [Array.length_toList]; rfl
          omega⟩
      · cases h
    | unit =>
      obtain ⟨fs, hu, hf⟩ : ∃ fs, P.underlying T = some (.struct fs) ∧ FitF ty fs.toList 0 .unit := by simpa only [FitD] using hd
      exact struct fs hu hf
    | pair a b =>
      obtain ⟨fs, hu, hf⟩ : ∃ fs, P.underlying T = some (.struct fs) ∧ FitF ty fs.toList 0 (.pair a b) := by simpa only [FitD] using hd
      exact struct fs hu hf
    | sl e =>
      obtain ⟨E, hu, hE⟩ : ∃ E, P.underlying T = some (.slice E) ∧ ty.ty E = some e := by simpa only [FitD] using hd
      simp only [Ty.plain, Bool.and_eq_true] at hp
      have hz : 0 < e.size := by simpa [Nat.blt_eq] using hp.2
      simp only [DataW.trod, hu] at h
      split at h
      all_goals first
        | (rename_i hu; cases hu; done)
        | (cases h; done)
        | skip
      · exact ⟨[], RepC_nil .., by simp [Fine], by simp [Sml]⟩
      · rename_i c0 E0 a len cap hu0
        simp only [Option.some.injEq, TypeDesc.slice.injEq] at hu0
        subst hu0
        split at h
        · rename_i hc
          obtain ⟨hb, hlc, hcm⟩ := hc
          simp only [Option.bind_eq_some_iff] at h
          obtain ⟨elems, hel, hrest⟩ := h
          obtain ⟨g1, g2⟩ := mapM_get hel
          simp only [Option.map_eq_some_iff] at hrest
          obtain ⟨rest, _, hde⟩ := hrest
          cases hde
          rw [List.length_range] at g1
          have hbk : bk (.slice (elems.map (·.1)) (rest.map (·.1))) = bks (elems.map (·.1)) + bks (rest.map (·.1)) + 1 := IB.sl _ _
          have hlenb : elems.length ≤ bks (elems.map (·.1)) := by
            have := IB.length_le (elems.map (·.1))
            rwa [List.length_map] at this
          rw [size_cellsOf tok hE] at g2
          have each : ∀ i, i < len → ∃ x : e.den, ∃ ci, w.cells? base (a.add (i * e.size)) e.size = some ci ∧ RepC w (olds w) e x ci ∧ Fine e x ∧ Sml (bk (.slice (elems.map (·.1)) (rest.map (·.1)))) e x := by
            intro i hi
            obtain ⟨y, hye, hy⟩ := g2 i i (List.getElem?_range hi)
            simp only [Option.bind_eq_some_iff] at hy
            obtain ⟨ci, h1, h2⟩ := hy
            obtain ⟨x, rx, fx, sx⟩ := ih e _ ci y.1 y.2 hE hp.1 h2
            have hmem : y.1 ∈ elems.map (·.1) := List.mem_map.2 ⟨y, List.mem_of_getElem? hye, rfl⟩
            have := IB.part_le hmem
            exact ⟨x, ci, h1, rx, fx, sx.mono (by omega)⟩
          obtain ⟨l, hl, hall⟩ := choose_list len each
          have ha : len = 0 ∨ a = ⟨a.block, a.off, none⟩ := by
            by_cases h0 : len = 0
            · exact .inl h0
            · right
              obtain ⟨x, ci, h1, _⟩ := each 0 (by omega)
              obtain ⟨c1, c2⟩ := cells_is h1
              have := c2 0 ci[0] (List.getElem?_eq_getElem (by omega))
              rw [Nat.zero_mul] at this
              exact (spot_none this).1
          refine ⟨l, ?_, ?_, ?_⟩
          · simp only [RepC]
            refine ⟨some a, len, cap, rfl, hl.symm, ⟨hlc, by omega⟩, a.block, a.off, ha.imp id (congrArg some), fun i y hy => ?_⟩
            have hi : i < len := by rw [← hl]; exact (List.getElem?_eq_some_iff.1 hy).1
            have ha' := ha.resolve_left (by omega)
            obtain ⟨ci, h1, rx, _, _⟩ := hall i y hy
            obtain ⟨c1, c2⟩ := cells_is h1
            have addr : ∀ j, (a.add (i * e.size)).add j = ⟨a.block, a.off + i * e.size + j, none⟩ := fun j => by rw [ha', Addr.add_mid, Addr.add_mid]
            refine ⟨ci, c1, fun j v hv => by rw [← addr]; exact c2 j v hv, rx, fun o ho => ?_⟩
            have := c2 o ci[o] (List.getElem?_eq_getElem (by omega))
            rw [addr] at this
            exact (spot_none this).2
          · simp only [Fine]
            refine ⟨by rw [hl]; omega, fun y hy => ?_⟩
            obtain ⟨i, hi⟩ := List.mem_iff_getElem?.1 hy
            obtain ⟨_, _, _, fy, _⟩ := hall i y hi
            exact fy
          · simp only [Sml]
            refine ⟨by rw [hl, hbk]; omega, fun y hy => ?_⟩
            obtain ⟨i, hi⟩ := List.mem_iff_getElem?.1 hy
            obtain ⟨_, _, _, _, sy⟩ := hall i y hi
            exact sy
        · cases h
    | arr n e => cases hp
    | mp a b => cases hp
def SmlAll (M : Nat) : (l : List Ty) → (pvs l).den → Prop
  | [], _ => True
  | t :: r, x => Sml M t x.1 ∧ SmlAll M r x.2
theorem trodAll_repS (tok : TyOK P ty) {enc : TypeId × Value → H} {w : World} {b0 base : Nat} {spare : Nat → Bool} {held : Bool} (IB : IsBulk bk bks) {M : Nat} : ∀ {Ts : List Nat} {l : List Ty} {vs : List Value} {ds : List (DataW H)} {ps : List MemPlace}, plains ty Ts l = true → DataW.TrodAll enc P w base spare held Ts vs ds ps → bks ds ≤ M →
    (∀ (j : Nat) t v, Ts[j]? = some t → vs[j]? = some v → Value.okWide P w .any b0 t v) → ∃ x : (pvs l).den, RepAll w (olds w) l x vs ∧ FineAll l x ∧ SmlAll M l x := by
  intro Ts
  induction Ts with
  | nil =>
    intro l vs ds ps hp h _ _
    cases l with
    | cons t l => cases hp
    | nil => obtain ⟨rfl, rfl, rfl⟩ := trodAll_nil h; exact ⟨(), rfl, trivial, trivial⟩
  | cons T Ts ih =>
    intro l vs ds ps hp h hM hv
    cases l with
    | nil => cases hp
    | cons t l =>
      simp only [plains, Bool.and_eq_true, decide_eq_true_eq] at hp
      obtain ⟨v, vs', d, ds', p, q, rfl, rfl, rfl, h1, h2⟩ := trodAll_cons h
      rw [IB.cons] at hM
      obtain ⟨fuel, hf⟩ := h1
      obtain ⟨x, rx, fx, sx⟩ := trod_repS tok IB fuel t T _ _ _ hp.1.1 hp.1.2 hf
      obtain ⟨y, ry, fy, sy⟩ := ih hp.2 h2 (by omega) fun j t v a b => hv (j + 1) t v (by simpa using a) (by simpa using b)
      exact ⟨(x, y), ⟨v.cells.toList, vs', by rw [← toVal_okWide tok hp.1.1 hp.1.2 (hv 0 T v rfl rfl)], rx, ry⟩, ⟨fx, fy⟩, sx.mono (by omega), sy⟩
/-- a law's call, its arguments read, where they are not too large together -/
theorem law_callsS (tok : TyOK P ty) {enc : TypeId × Value → H} {w : World} {b0 base : Nat} {spare : Nat → Bool} {held : Bool} (IB : IsBulk bk bks) {M : Nat} {Ts : List Nat} {l : List Ty} {args : Array Value} {ds : List (DataW H)} {ps : List MemPlace} (hp : plains ty Ts l = true) (h : DataW.TrodAll enc P w base spare held Ts args.toList ds ps) (hM : bks ds ≤ M)
    (hv : ∀ (j : Nat) t v, Ts[j]? = some t → args.toList[j]? = some v → Value.okWide P w .any b0 t v) {f : FuncId} {fn : Func} {an : Ann} (hi : ∀ x, FineAll l x → SmlAll M l x → ∃ o, InstOK P ⟨f, fn, an, pvs l, .cons .flat .bool .nil⟩ x ((true, ()), o)) :
    Calls P f args w fun e w' => e = .returned (.bool true) ∧ Below w.heap.size w w' := by
  obtain ⟨x, rx, fx, sx⟩ := trodAll_repS tok IB hp h hM hv
  obtain ⟨o, ho⟩ := hi x fx sx
  exact law_end ho rx
end Go.VM
/- Chapter 10: bodies by halves and one by one. -/
namespace Go.VM
theorem bods_sorted {b : List Bod} (h : S_bods b = 0) : ∀ i j, i < j → j < b.length → bl (b.getD i bod0).1 (b.getD j bod0).1 = true := by
  have hs : ∀ i a, b[i]? = some a → 0 < i → bl (b.getD (i - 1) bod0).1 a.1 = true := by
    unfold S_bods at h
    cases hd : decide ((200 : Int) < (b.length : Int)) with
    | true => rw [hd] at h; cases h
    | false =>
      rw [hd, cond_false] at h
      intro i a hi h0
      have := first_zero b 0 h i a hi
      rw [Nat.zero_add] at this
      unfold bodC at this
      cases h1 : S_word a.1 with
      | false => rw [h1] at this; cases this
      | true =>
      cases h2 : S_within a.2.1 1 100000 with
      | false => rw [h1, h2] at this; cases this
      | true =>
      cases h3 : S_within a.2.2.1 1 100000 with
      | false => rw [h1, h2, h3] at this; cases this
      | true =>
      cases h4 : S_within a.2.2.2.1 1 100000 with
      | false => rw [h1, h2, h3, h4] at this; cases this
      | true =>
      cases h5 : S_word a.2.2.2.2.1 with
      | false => rw [h1, h2, h3, h4, h5] at this; cases this
      | true =>
        simp only [h1, h2, h3, h4, h5, Bool.not_true, cond_false] at this
        rw [decide_eq_true h0, cond_true, ble_not] at this
        cases hb : bl (b.getD (i - 1) bod0).1 a.1 with
        | true => rfl
        | false => rw [hb] at this; cases this
  intro i j
  induction j with
  | zero => intro h; omega
  | succ j ih =>
    intro hij hj
    have h1 := hs (j + 1) _ (List.getElem?_eq_getElem hj) (by omega)
    rw [getD_at hj]
    by_cases e : i = j
    · subst e; exact h1
    · exact bl_trans (ih (by omega) (by omega)) h1
def S_bodI (b : List Bod) (t : ByteArray) : Int := S_find (fun a : Bod => decide (a.1 = t)) b
/-- found by halves or one by one -/
theorem bod_same {b : List Bod} (h : S_bods b = 0) (t : ByteArray) : S_thereB b t = !decide (S_bodI b t < 0) ∧ (S_thereB b t = true → ∃ k : Nat, S_bodI b t = k ∧ k < b.length ∧ b.getD k bod0 = S_bodP b t) := by
  have hs := bods_sorted h
  obtain ⟨b1, b2⟩ := bs_find (fun a : Bod => a.1) b bod0 t hs
  have uniq : ∀ x ∈ b, ∀ y ∈ b, x.1 = y.1 → x = y := by
    intro x hx y hy e
    obtain ⟨i, hi, rfl⟩ := List.mem_iff_getElem.1 hx
    obtain ⟨j, hj, rfl⟩ := List.mem_iff_getElem.1 hy
    rcases Nat.lt_trichotomy i j with h | h | h
    · have := hs i j h hj
      rw [getD_at hi, getD_at hj, e, bl_irrefl] at this; cases this
    · subst h; rfl
    · have := hs j i h hi
      rw [getD_at hi, getD_at hj, e, bl_irrefl] at this; cases this
  unfold S_bodI
  rcases find_spec (p := fun a : Bod => decide (a.1 = t)) b with ⟨f1, f2⟩ | ⟨k, a, f1, f2, f3, _⟩
  · have hf : S_thereB b t = false := by
      cases hc : S_thereB b t with
      | false => rfl
      | true =>
        obtain ⟨m, rfl, m1, m2⟩ := b1 hc
        have := f2 _ (List.getElem_mem m1)
        rw [getD_at m1] at m2
        rw [decide_eq_true m2] at this; cases this
    rw [hf, f1]
    exact ⟨rfl, fun c => by cases c⟩
  · have hk : k < b.length := (List.getElem?_eq_some_iff.1 f2).1
    have hka : b[k] = a := (List.getElem?_eq_some_iff.1 f2).2
    have hat : a.1 = t := of_decide_eq_true f3
    cases hc : S_thereB b t with
    | false => exact absurd hat (b2 hc a (hka ▸ List.getElem_mem hk))
    | true =>
      rw [f1]
      refine ⟨by rw [decide_eq_false (by omega)]; rfl, fun _ => ⟨k, rfl, hk, ?_⟩⟩
      obtain ⟨m, hm, m1, m2⟩ := b1 hc
      unfold S_bodP
      rw [hc, cond_true, getD_at hk]
      have hm2 : bsI (fun a : Bod => S_cmps a.1 t) b bod0 = m := hm.symm
      rw [hm2, getD_at m1]
      rw [getD_at m1] at m2
      exact uniq _ (List.getElem_mem hk) _ (List.getElem_mem m1) (by rw [hka, hat, m2])
def betR (r s : Rec4) : Int :=
  bif decide (mx (s.1 - r.2.2.1) (r.1 - s.2.2.1) < 0) && decide (mx (s.2.1 - r.2.2.2.1) (r.2.1 - s.2.2.2.1) < 0) then -1 else mx (mx (mx (s.1 - r.2.2.1) (r.1 - s.2.2.1)) (mx (s.2.1 - r.2.2.2.1) (r.2.1 - s.2.2.2.1))) 0
theorem mx_is (a b : Int) : (mx a b = a ∧ b ≤ a) ∨ (mx a b = b ∧ a < b) := by
  unfold mx
  by_cases h : a < b
  · rw [decide_eq_true h]; exact .inr ⟨rfl, h⟩
  · rw [decide_eq_false h]; exact .inl ⟨rfl, by omega⟩
theorem bet_same (r s : Rec4) : betR r s = dstR r s := by
  unfold betR dstR rgap
  have h1 := mx_is (s.1 - r.2.2.1) (r.1 - s.2.2.1)
  have h2 := mx_is (s.2.1 - r.2.2.2.1) (r.2.1 - s.2.2.2.1)
  have h3 := mx_is (r.1 - s.2.2.1) (s.1 - r.2.2.1)
  have h4 := mx_is (mx (r.1 - s.2.2.1) (s.1 - r.2.2.1)) (r.2.1 - s.2.2.2.1)
  have h5 := mx_is (mx (mx (r.1 - s.2.2.1) (s.1 - r.2.2.1)) (r.2.1 - s.2.2.2.1)) (s.2.1 - r.2.2.2.1)
  have h6 := mx_is (mx (s.1 - r.2.2.1) (r.1 - s.2.2.1)) (mx (s.2.1 - r.2.2.2.1) (r.2.1 - s.2.2.2.1))
  have h7 := mx_is (mx (mx (s.1 - r.2.2.1) (r.1 - s.2.2.1)) (mx (s.2.1 - r.2.2.2.1) (r.2.1 - s.2.2.2.1))) 0
  generalize mx (mx (mx (s.1 - r.2.2.1) (r.1 - s.2.2.1)) (mx (s.2.1 - r.2.2.2.1) (r.2.1 - s.2.2.2.1))) 0 = v7 at *
  generalize mx (mx (s.1 - r.2.2.1) (r.1 - s.2.2.1)) (mx (s.2.1 - r.2.2.2.1) (r.2.1 - s.2.2.2.1)) = v6 at *
  generalize mx (mx (mx (r.1 - s.2.2.1) (s.1 - r.2.2.1)) (r.2.1 - s.2.2.2.1)) (s.2.1 - r.2.2.2.1) = v5 at *
  generalize mx (mx (r.1 - s.2.2.1) (s.1 - r.2.2.1)) (r.2.1 - s.2.2.2.1) = v4 at *
  generalize mx (r.1 - s.2.2.1) (s.1 - r.2.2.1) = v3 at *
  generalize mx (s.2.1 - r.2.2.2.1) (r.2.1 - s.2.2.2.1) = v2 at *
  generalize mx (s.1 - r.2.2.1) (r.1 - s.2.2.1) = v1 at *
  by_cases h : v5 < 0
  · rw [decide_eq_true h, decide_eq_true (show v1 < 0 by omega), decide_eq_true (show v2 < 0 by omega)]; rfl
  · rw [decide_eq_false h, cond_false]
    by_cases k1 : v1 < 0
    · by_cases k2 : v2 < 0
      · omega
      · rw [decide_eq_false k2, Bool.and_false, cond_false]; omega
    · rw [decide_eq_false k1, Bool.false_and, cond_false]; omega
/-- the reference's check of one place -/
def chkP (b : List Bod) (p : Pla) : Int := bif !S_path p.1 then 5 else bif decide (S_bodI b p.2.1 < 0) then 9 else bif !isPtV p.2.2.1 then 1 else bif !S_within p.2.2.2.1 0 3 then 1 else 0
theorem chkP_same {b : List Bod} (h : S_bods b = 0) (l : List Pla) (p : Pla) (i : Nat) : plaC (S_thereB b) l p i = bif decide (chkP b p = 0) then (bif decide (0 < i) then (bif ble p.1 (l.getD (i - 1) pla0).1 then 8 else 0) else 0) else chkP b p := by
  unfold plaC chkP
  rw [(bod_same h p.2.1).1]
  cases S_path p.1 <;> cases decide (S_bodI b p.2.1 < 0) <;> cases isPtV p.2.2.1 <;> cases S_within p.2.2.2.1 0 3 <;> rfl
end Go.VM
/- Chapter 10: reels, what may stand for what, picks. -/
namespace Go.VM
abbrev Reel := Int × ByteArray × Int × Unit
abbrev Ins := ByteArray × ByteArray × Unit
abbrev Pick := Int × ByteArray × ByteArray × Int × Unit
def reel0 : Reel := (0, strOf [], 0, ())
def ins0 : Ins := (strOf [], strOf [], ())
def reelC (l : List Reel) (a : Reel) (i : Nat) : Int :=
  bif !S_within a.1 1 10000 then 1 else bif !S_word a.2.1 then 5 else bif !S_within a.2.2.1 0 1000000 then 1 else
    bif decide (0 < i) then (bif decide (a.1 ≤ (l.getD (i - 1) reel0).1) then 8 else 0) else 0
def S_reels (r : List Reel) : Int := bif decide ((200 : Int) < (r.length : Int)) then 2 else firstC (reelC r) r 0
def insC (l : List Ins) (a : Ins) (i : Nat) : Int :=
  bif !S_word a.1 then 5 else bif !S_word a.2.1 then 5 else bif decide (a.1 = a.2.1) then 12 else bif (l.take i).any (fun x => decide (x = a)) then 7 else 0
def S_insts (l : List Ins) : Int := bif decide ((200 : Int) < (l.length : Int)) then 2 else firstC (insC l) l 0
def reelP (t : ByteArray) (a : Reel) : Bool := decide (a.2.1 = t) && decide (0 < a.2.2.1)
def S_reel1 (r : List Reel) (t : ByteArray) : Int := S_find (reelP t) r
theorem find_range {α : Type} (p : α → Bool) (l : List α) : S_find p l = -1 ∨ ∃ k : Nat, S_find p l = k ∧ k < l.length := by
  rcases find_spec (p := p) l with ⟨f1, _⟩ | ⟨k, a, f1, f2, _, _⟩
  · exact .inl f1
  · exact .inr ⟨k, f1, (List.getElem?_eq_some_iff.1 f2).1⟩
def pickQ (r : List Reel) (t : ByteArray) (k : Int) (x : Ins) : Int := bif decide (k < 0) then (bif decide (x.1 = t) then S_reel1 r x.2.1 else k) else k
def S_pickR (r : List Reel) (s : List Ins) (t : ByteArray) : Int := s.foldl (pickQ r t) (S_reel1 r t)
theorem pickR_range (r : List Reel) (s : List Ins) (t : ByteArray) : S_pickR r s t = -1 ∨ ∃ k : Nat, S_pickR r s t = k ∧ k < r.length := by
  have key : ∀ (s : List Ins) (k : Int), (k = -1 ∨ ∃ m : Nat, k = m ∧ m < r.length) → (s.foldl (pickQ r t) k = -1 ∨ ∃ m : Nat, s.foldl (pickQ r t) k = m ∧ m < r.length) := by
    intro s
    induction s with
    | nil => exact fun k h => h
    | cons x s ih =>
      intro k h
      refine ih _ ?_
      unfold pickQ
      cases decide (k < 0) with
      | false => exact h
      | true =>
        cases decide (x.1 = t) with
        | false => exact h
        | true => exact find_range _ _
  exact key s _ (find_range _ _)
theorem pickR_done (r : List Reel) (t : ByteArray) : ∀ (s : List Ins) (k : Int), ¬ k < 0 → s.foldl (pickQ r t) k = k
  | [], _, _ => rfl
  | x :: s, k, h => by
    rw [List.foldl_cons]
    have : pickQ r t k x = k := by unfold pickQ; rw [decide_eq_false h]; rfl
    rw [this]; exact pickR_done r t s k h
theorem reels_loop {A : Type} {R : Int → A} {l : List Reel} (hl : l.length ≤ maxLen) {n : Nat} (hn : l.length < n) : (  (bif decide ((200 < ((l.length : Nat) : Int))) then
    some (R 2)
  else
    loopN (fun rec1 => fun
    | ((v1aa, ()), ()) =>
      (bif decide ((v1aa < ((l.length : Nat) : Int))) then
        (bif inB v1aa l.length then
          (bif (!(S_within ((l.getD v1aa.toNat (0, ((strOf []), (0, ())))).1) 1 10000)) then
            some (R 1)
          else
            (bif (!(S_word (((l.getD v1aa.toNat (0, ((strOf []), (0, ())))).2).1))) then
              some (R 5)
            else
              (bif (!(S_within ((((l.getD v1aa.toNat (0, ((strOf []), (0, ())))).2).2).1) 0 1000000)) then
                some (R 1)
              else
                (bif decide ((0 < v1aa)) then
                  (bif inB (wrapI .i64 (v1aa - 1)) l.length then
                    (bif decide (((l.getD v1aa.toNat (0, ((strOf []), (0, ())))).1 ≤ (l.getD ((wrapI .i64 (v1aa - 1)).toNat) (0, ((strOf []), (0, ())))).1)) then
                      some (R 8)
                    else
                      rec1 ((wrapI .i64 (v1aa + 1), ()), ()))
                  else
                    none)
                else
                  rec1 ((wrapI .i64 (v1aa + 1), ()), ())))))
        else
          none)
      else
        some (R 0)))
    n ((0, ()), ()))) = some (R (S_reels l)) := by
  unfold S_reels
  cases hd : decide ((200 : Int) < (l.length : Int)) with
  | true => rfl
  | false =>
    simp only [cond_false]
    refine (loop_list (l := l) (fun i (_ : Unit) => ((i, ()), ())) (fun a i _ => bif decide (reelC l a i = 0) then .inl () else .inr (some (R (reelC l a i)))) (fun _ => some (R 0)) (fun i h s rec => ?_) (fun s rec => by simp only [lt_self, cond_false]) hn ()).trans ?_
    · simp only [lt_nat h, inB_nat h, getD_lt h, succ64 h hl, cond_true]
      unfold reelC
      cases S_within l[i].1 1 10000 with
      | false => rfl
      | true =>
      cases S_word l[i].2.1 with
      | false => rfl
      | true =>
      cases S_within l[i].2.2.1 0 1000000 with
      | false => rfl
      | true =>
        simp only [Bool.not_true, cond_false]
        by_cases h0 : 0 < i
        · have e1 : decide ((0 : Int) < (i : Int)) = true := decide_eq_true (by omega)
          have hl' : l.length ≤ 9223372036854775807 := Nat.le_trans hl (by decide)
          have e2 : wrapI .i64 ((i : Int) - 1) = ((i - 1 : Nat) : Int) := by rw [wrap64 (by omega) (by omega)]; omega
          simp only [e1, e2, decide_eq_true h0, inB_nat (show i - 1 < l.length by omega), cond_true, Int.toNat_natCast]
          change (bif decide (l[i].1 ≤ (l.getD (i - 1) reel0).1) then _ else _) = _
          cases decide (l[i].1 ≤ (l.getD (i - 1) reel0).1) <;> rfl
        · have e1 : decide ((0 : Int) < (i : Int)) = false := decide_eq_false (by omega)
          simp only [e1, decide_eq_false h0, cond_false]
          rfl
    · rw [first_go (R := fun a => some (R a))]
      cases hz : decide (firstC (reelC l) l 0 = 0) with
      | true => rw [of_decide_eq_true hz]; rfl
      | false => rfl
theorem insts_loop {A : Type} {R : Int → A} {l : List Ins} (hl : l.length ≤ maxLen) {n : Nat} (hn : l.length < n) : (  (bif decide ((200 < ((l.length : Nat) : Int))) then
    some (R 2)
  else
    loopN (fun rec1 => fun
    | ((v1aa, ()), ()) =>
      (bif decide ((v1aa < ((l.length : Nat) : Int))) then
        (bif inB v1aa l.length then
          (bif (!(S_word ((l.getD v1aa.toNat ((strOf []), ((strOf []), ()))).1))) then
            some (R 5)
          else
            (bif (!(S_word (((l.getD v1aa.toNat ((strOf []), ((strOf []), ()))).2).1))) then
              some (R 5)
            else
              (bif decide ((ByteArray.toList ((l.getD v1aa.toNat ((strOf []), ((strOf []), ()))).1) = ByteArray.toList (((l.getD v1aa.toNat ((strOf []), ((strOf []), ()))).2).1))) then
                some (R 12)
              else
                (bif (decide ((0 ≤ v1aa)) && decide ((v1aa ≤ ((l.length : Nat) : Int)))) then
                  (bif List.any ((l.drop 0).take (v1aa.toNat - 0)) (fun a => decide ((a = l.getD v1aa.toNat ((strOf []), ((strOf []), ()))))) then
                    some (R 7)
                  else
                    rec1 ((wrapI .i64 (v1aa + 1), ()), ()))
                else
                  none))))
        else
          none)
      else
        some (R 0)))
    n ((0, ()), ()))) = some (R (S_insts l)) := by
  unfold S_insts
  cases hd : decide ((200 : Int) < (l.length : Int)) with
  | true => rfl
  | false =>
    simp only [cond_false]
    refine (loop_list (l := l) (fun i (_ : Unit) => ((i, ()), ())) (fun a i _ => bif decide (insC l a i = 0) then .inl () else .inr (some (R (insC l a i)))) (fun _ => some (R 0)) (fun i h s rec => ?_) (fun s rec => by simp only [lt_self, cond_false]) hn ()).trans ?_
    · have e0 : decide ((0 : Int) ≤ (i : Int)) = true := decide_eq_true (by omega)
      have e1 : decide ((i : Int) ≤ (l.length : Int)) = true := decide_eq_true (by omega)
      simp only [lt_nat h, inB_nat h, getD_lt h, getD_at h, succ64 h hl, cond_true, str_dec, e0, e1, Bool.and_true, List.drop_zero, Int.toNat_natCast, Nat.sub_zero]
      unfold insC
      cases S_word l[i].1 with
      | false => rfl
      | true =>
      cases S_word l[i].2.1 with
      | false => rfl
      | true =>
      simp only [Bool.not_true, cond_false]
      cases decide (l[i].1 = l[i].2.1) with
      | true => rfl
      | false =>
      simp only [cond_false]
      cases (l.take i).any (fun x => decide (x = l[i])) <;> rfl
    · rw [first_go (R := fun a => some (R a))]
      cases hz : decide (firstC (insC l) l 0 = 0) with
      | true => rw [of_decide_eq_true hz]; rfl
      | false => rfl
theorem foldI_foldl {α σ : Type} (g : σ → α → σ) : ∀ (l : List α) (i : Nat) (s : σ), foldI (fun a _ s => g s a) l i s = l.foldl g s
  | [], _, _ => rfl
  | a :: l, i, s => foldI_foldl g l (i + 1) (g s a)
theorem goL_pick {A : Type} {R : Int → A} (r : List Reel) (t : ByteArray) : ∀ (s : List Ins) (i : Nat) (k : Int), goL (fun a _ k => bif decide (k < 0) then .inl (pickQ r t k a) else .inr (some (R k))) (fun k => some (R k)) s i k = some (R (s.foldl (pickQ r t) k))
  | [], _, _ => rfl
  | a :: s, i, k => by
    simp only [goL]
    by_cases h : k < 0
    · rw [decide_eq_true h, cond_true]
      exact goL_pick r t s (i + 1) _
    · rw [decide_eq_false h, cond_false, pickR_done r t _ k h]
def setR (o : List Reel) (k : Nat) : List Reel := o.set k ((o.getD k reel0).1, (o.getD k reel0).2.1, wrapI .i64 ((o.getD k reel0).2.2.1 - 1), (o.getD k reel0).2.2.2)
def stepP (s : List Ins) (n : Int) (p : Pla) (o : List Pick × List Reel) : List Pick × List Reel :=
  bif decide (0 ≤ S_pickR o.2 s p.2.1) then (o.1 ++ [(n, p.1, ((setR o.2 (S_pickR o.2 s p.2.1).toNat).getD (S_pickR o.2 s p.2.1).toNat reel0).2.1, ((setR o.2 (S_pickR o.2 s p.2.1).toNat).getD (S_pickR o.2 s p.2.1).toNat reel0).1, ())], setR o.2 (S_pickR o.2 s p.2.1).toNat)
  else (o.1 ++ [(n, p.1, p.2.1, 0, ())], o.2)
theorem stepP_len (s : List Ins) (n : Int) (p : Pla) (o : List Pick × List Reel) : (stepP s n p o).1.length = o.1.length + 1 := by
  unfold stepP
  cases decide (0 ≤ S_pickR o.2 s p.2.1) <;> simp
def boardP (s : List Ins) (l : List Pla) (i : Nat) (o : List Pick × List Reel) : List Pick × List Reel := foldI (fun p _ o => stepP s ((i : Int) + 1) p o) l 0 o
def S_picksL (l : List Pla) (r : List Reel) (s : List Ins) (N : Nat) : List Pick × List Reel := foldI (fun (_ : Unit) i o => boardP s l i o) (List.replicate N ()) 0 ([], r)
theorem boardP_len (s : List Ins) (l : List Pla) (i : Nat) (o : List Pick × List Reel) : (boardP s l i o).1.length = o.1.length + l.length := by
  unfold boardP
  have := foldI_inv (f := fun p _ o => stepP s ((i : Int) + 1) p o) (fun k x => x.1.length = o.1.length + k) l 0 o rfl (fun j a s' _ h => by rw [stepP_len]; omega)
  rw [this]; omega
theorem picks_loop {A : Type} {R : List Pick → List Reel → A} {l : List Pla} {r : List Reel} {s : List Ins} {N : Nat} (hl : l.length ≤ maxLen) (hb : N * l.length ≤ 20000) (hN : N ≤ 1000) {n : Nat} (hn1 : l.length < n) (hn2 : N < n) : (            loopN (fun rec2 => fun
            | ((v2aa, ()), (v2ba, (v2bba, ()))) =>
              (bif decide ((v2aa ≤ (N : Int))) then
                loopN (fun rec3 => fun
                | ((v3aa, ()), (v3ba, (v3bba, ()))) =>
                  (bif decide ((v3aa < ((l.length : Nat) : Int))) then
                    (bif inB v3aa l.length then
                      (bif decide ((0 ≤ S_pickR v3bba s (((l.getD v3aa.toNat ((strOf []), ((strOf []), ((0, (0, ())), (0, (false, ())))))).2).1))) then
                        (bif inB (S_pickR v3bba s (((l.getD v3aa.toNat ((strOf []), ((strOf []), ((0, (0, ())), (0, (false, ())))))).2).1)) v3bba.length then
                          (bif inB (S_pickR v3bba s (((l.getD v3aa.toNat ((strOf []), ((strOf []), ((0, (0, ())), (0, (false, ())))))).2).1)) v3bba.length then
                            (bif inB (S_pickR v3bba s (((l.getD v3aa.toNat ((strOf []), ((strOf []), ((0, (0, ())), (0, (false, ())))))).2).1)) ((v3bba.set ((S_pickR v3bba s (((l.getD v3aa.toNat ((strOf []), ((strOf []), ((0, (0, ())), (0, (false, ())))))).2).1)).toNat) ((v3bba.getD ((S_pickR v3bba s (((l.getD v3aa.toNat ((strOf []), ((strOf []), ((0, (0, ())), (0, (false, ())))))).2).1)).toNat) (0, ((strOf []), (0, ())))).1, (((v3bba.getD ((S_pickR v3bba s (((l.getD v3aa.toNat ((strOf []), ((strOf []), ((0, (0, ())), (0, (false, ())))))).2).1)).toNat) (0, ((strOf []), (0, ())))).2).1, (wrapI .i64 ((((v3bba.getD ((S_pickR v3bba s (((l.getD v3aa.toNat ((strOf []), ((strOf []), ((0, (0, ())), (0, (false, ())))))).2).1)).toNat) (0, ((strOf []), (0, ())))).2).2).1 - 1), (((v3bba.getD ((S_pickR v3bba s (((l.getD v3aa.toNat ((strOf []), ((strOf []), ((0, (0, ())), (0, (false, ())))))).2).1)).toNat) (0, ((strOf []), (0, ())))).2).2).2)))).length) then
                              (bif inB (S_pickR v3bba s (((l.getD v3aa.toNat ((strOf []), ((strOf []), ((0, (0, ())), (0, (false, ())))))).2).1)) ((v3bba.set ((S_pickR v3bba s (((l.getD v3aa.toNat ((strOf []), ((strOf []), ((0, (0, ())), (0, (false, ())))))).2).1)).toNat) ((v3bba.getD ((S_pickR v3bba s (((l.getD v3aa.toNat ((strOf []), ((strOf []), ((0, (0, ())), (0, (false, ())))))).2).1)).toNat) (0, ((strOf []), (0, ())))).1, (((v3bba.getD ((S_pickR v3bba s (((l.getD v3aa.toNat ((strOf []), ((strOf []), ((0, (0, ())), (0, (false, ())))))).2).1)).toNat) (0, ((strOf []), (0, ())))).2).1, (wrapI .i64 ((((v3bba.getD ((S_pickR v3bba s (((l.getD v3aa.toNat ((strOf []), ((strOf []), ((0, (0, ())), (0, (false, ())))))).2).1)).toNat) (0, ((strOf []), (0, ())))).2).2).1 - 1), (((v3bba.getD ((S_pickR v3bba s (((l.getD v3aa.toNat ((strOf []), ((strOf []), ((0, (0, ())), (0, (false, ())))))).2).1)).toNat) (0, ((strOf []), (0, ())))).2).2).2)))).length) then
                                (bif decide (((v3ba.length + 1) ≤ 4294967296)) then
                                  rec3 ((wrapI .i64 (v3aa + 1), ()), ((v3ba ++ [(v2aa, ((l.getD v3aa.toNat ((strOf []), ((strOf []), ((0, (0, ())), (0, (false, ())))))).1, ((((v3bba.set ((S_pickR v3bba s (((l.getD v3aa.toNat ((strOf []), ((strOf []), ((0, (0, ())), (0, (false, ())))))).2).1)).toNat) ((v3bba.getD ((S_pickR v3bba s (((l.getD v3aa.toNat ((strOf []), ((strOf []), ((0, (0, ())), (0, (false, ())))))).2).1)).toNat) (0, ((strOf []), (0, ())))).1, (((v3bba.getD ((S_pickR v3bba s (((l.getD v3aa.toNat ((strOf []), ((strOf []), ((0, (0, ())), (0, (false, ())))))).2).1)).toNat) (0, ((strOf []), (0, ())))).2).1, (wrapI .i64 ((((v3bba.getD ((S_pickR v3bba s (((l.getD v3aa.toNat ((strOf []), ((strOf []), ((0, (0, ())), (0, (false, ())))))).2).1)).toNat) (0, ((strOf []), (0, ())))).2).2).1 - 1), (((v3bba.getD ((S_pickR v3bba s (((l.getD v3aa.toNat ((strOf []), ((strOf []), ((0, (0, ())), (0, (false, ())))))).2).1)).toNat) (0, ((strOf []), (0, ())))).2).2).2)))).getD ((S_pickR v3bba s (((l.getD v3aa.toNat ((strOf []), ((strOf []), ((0, (0, ())), (0, (false, ())))))).2).1)).toNat) (0, ((strOf []), (0, ())))).2).1, (((v3bba.set ((S_pickR v3bba s (((l.getD v3aa.toNat ((strOf []), ((strOf []), ((0, (0, ())), (0, (false, ())))))).2).1)).toNat) ((v3bba.getD ((S_pickR v3bba s (((l.getD v3aa.toNat ((strOf []), ((strOf []), ((0, (0, ())), (0, (false, ())))))).2).1)).toNat) (0, ((strOf []), (0, ())))).1, (((v3bba.getD ((S_pickR v3bba s (((l.getD v3aa.toNat ((strOf []), ((strOf []), ((0, (0, ())), (0, (false, ())))))).2).1)).toNat) (0, ((strOf []), (0, ())))).2).1, (wrapI .i64 ((((v3bba.getD ((S_pickR v3bba s (((l.getD v3aa.toNat ((strOf []), ((strOf []), ((0, (0, ())), (0, (false, ())))))).2).1)).toNat) (0, ((strOf []), (0, ())))).2).2).1 - 1), (((v3bba.getD ((S_pickR v3bba s (((l.getD v3aa.toNat ((strOf []), ((strOf []), ((0, (0, ())), (0, (false, ())))))).2).1)).toNat) (0, ((strOf []), (0, ())))).2).2).2)))).getD ((S_pickR v3bba s (((l.getD v3aa.toNat ((strOf []), ((strOf []), ((0, (0, ())), (0, (false, ())))))).2).1)).toNat) (0, ((strOf []), (0, ())))).1, ()))))]), (v3bba.set ((S_pickR v3bba s (((l.getD v3aa.toNat ((strOf []), ((strOf []), ((0, (0, ())), (0, (false, ())))))).2).1)).toNat) ((v3bba.getD ((S_pickR v3bba s (((l.getD v3aa.toNat ((strOf []), ((strOf []), ((0, (0, ())), (0, (false, ())))))).2).1)).toNat) (0, ((strOf []), (0, ())))).1, (((v3bba.getD ((S_pickR v3bba s (((l.getD v3aa.toNat ((strOf []), ((strOf []), ((0, (0, ())), (0, (false, ())))))).2).1)).toNat) (0, ((strOf []), (0, ())))).2).1, (wrapI .i64 ((((v3bba.getD ((S_pickR v3bba s (((l.getD v3aa.toNat ((strOf []), ((strOf []), ((0, (0, ())), (0, (false, ())))))).2).1)).toNat) (0, ((strOf []), (0, ())))).2).2).1 - 1), (((v3bba.getD ((S_pickR v3bba s (((l.getD v3aa.toNat ((strOf []), ((strOf []), ((0, (0, ())), (0, (false, ())))))).2).1)).toNat) (0, ((strOf []), (0, ())))).2).2).2))), ())))
                                else
                                  none)
                              else
                                none)
                            else
                              none)
                          else
                            none)
                        else
                          none)
                      else
                        (bif decide (((v3ba.length + 1) ≤ 4294967296)) then
                          rec3 ((wrapI .i64 (v3aa + 1), ()), ((v3ba ++ [(v2aa, ((l.getD v3aa.toNat ((strOf []), ((strOf []), ((0, (0, ())), (0, (false, ())))))).1, (((l.getD v3aa.toNat ((strOf []), ((strOf []), ((0, (0, ())), (0, (false, ())))))).2).1, (0, ()))))]), (v3bba, ())))
                        else
                          none))
                    else
                      none)
                  else
                    rec2 ((wrapI .i64 (v2aa + 1), ()), (v3ba, (v3bba, ())))))
                n ((0, ()), (v2ba, (v2bba, ())))
              else
                some (R v2ba v2bba)))
            n ((1, ()), ([], (r, ())))) = some (R (S_picksL l r s N).1 (S_picksL l r s N).2) := by
  unfold S_picksL
  have hrl : (List.replicate N ()).length = N := List.length_replicate
  refine (loop_fold (l := List.replicate N ()) (fun i (o : List Pick × List Reel) => ((i + 1, ()), (o.1, (o.2, ())))) (fun i o => o.1.length = i * l.length) (fun _ i o => boardP s l i o) (fun o => some (R o.1 o.2)) (fun i h o hI => ⟨?_, fun rec => ?_⟩) (fun o _ rec => ?_) (n := n) (hrl.symm ▸ hn2 : (List.replicate N ()).length < n) (s := ([], r)) (by simp))
  · rw [boardP_len, hI, Nat.succ_mul]
  · rw [hrl] at h
    have e1 : decide ((i : Int) + 1 ≤ (N : Int)) = true := decide_eq_true (by omega)
    have e2 : wrapI .i64 ((i : Int) + 1 + 1) = ((i + 1 : Nat) : Int) + 1 := by rw [wrap64 (by omega) (by omega)]; omega
    have hil : (i + 1) * l.length ≤ 20000 := Nat.le_trans (Nat.mul_le_mul_right _ h) hb
    rw [Nat.succ_mul] at hil
    simp only [e1, e2, cond_true]
    unfold boardP
    refine (loop_fold (l := l) (fun j (o : List Pick × List Reel) => ((j, ()), (o.1, (o.2, ())))) (fun j o => o.1.length = i * l.length + j) (fun p _ o => stepP s ((i : Int) + 1) p o) (fun o => rec ((((i + 1 : Nat) : Int) + 1, ()), (o.1, (o.2, ())))) (fun j hj o hJ => ⟨?_, fun rec2 => ?_⟩) (fun o _ rec2 => by simp only [lt_self, cond_false]) hn1 (s := o) (by omega))
    · rw [stepP_len, hJ]; omega
    · have c3 : decide (o.1.length + 1 ≤ 4294967296) = true := decide_eq_true (by omega)
      unfold stepP
      simp only [lt_nat hj, inB_nat hj, getD_lt hj, succ64 hj hl, cond_true]
      rcases pickR_range o.2 s l[j].2.1 with e | ⟨k, e, hk⟩
      · have e0 : decide ((0 : Int) ≤ -1) = false := rfl
        simp only [e, e0, cond_false, c3, cond_true]
      · have e0 : decide ((0 : Int) ≤ (k : Int)) = true := decide_eq_true (by omega)
        simp only [e, e0, cond_true, c3, inB_nat hk, List.length_set, Int.toNat_natCast]
        rfl
  · rw [hrl]
    have e1 : decide ((N : Int) + 1 ≤ (N : Int)) = false := decide_eq_false (by omega)
    simp only [e1, cond_false]
theorem reels_len {r : List Reel} (h : S_reels r = 0) : r.length ≤ 200 := by
  unfold S_reels at h
  cases hd : decide ((200 : Int) < (r.length : Int)) with
  | true => rw [hd] at h; cases h
  | false => have := of_decide_eq_false hd; omega
def S_pkE (b : List Bod) (l : List Pla) (r : List Reel) (s : List Ins) (n : Int) : Int := bif decide (S_plas b l = 0) then (bif decide (S_reels r = 0) then (bif decide (S_insts s = 0) then (bif S_within n 0 1000 then (bif decide (20000 < wrapI .i64 (n * (l.length : Int))) then 2 else 0) else 1) else S_insts s) else S_reels r) else S_plas b l
def S_pk (b : List Bod) (l : List Pla) (r : List Reel) (s : List Ins) (n : Int) : List Pick × List Reel := bif decide (S_pkE b l r s n = 0) then S_picksL l r s n.toNat else ([], [])
theorem pk_at {b : List Bod} {l : List Pla} {r : List Reel} {s : List Ins} {n : Int} (h : S_pkE b l r s n = 0) : S_plas b l = 0 ∧ S_reels r = 0 ∧ S_insts s = 0 ∧ S_within n 0 1000 = true ∧ decide (20000 < wrapI .i64 (n * (l.length : Int))) = false ∧ l.length ≤ 1000 ∧ ∃ N : Nat, n = N ∧ N ≤ 1000 ∧ N * l.length ≤ 20000 := by
  unfold S_pkE at h
  cases h1 : decide (S_plas b l = 0) with
  | false => rw [h1, cond_false] at h; rw [decide_eq_true h] at h1; cases h1
  | true =>
  cases h2 : decide (S_reels r = 0) with
  | false => rw [h1, h2] at h; simp only [cond_true, cond_false] at h; rw [decide_eq_true h] at h2; cases h2
  | true =>
  cases h3 : decide (S_insts s = 0) with
  | false => rw [h1, h2, h3] at h; simp only [cond_true, cond_false] at h; rw [decide_eq_true h] at h3; cases h3
  | true =>
  cases h4 : S_within n 0 1000 with
  | false => rw [h1, h2, h3, h4] at h; cases h
  | true =>
  cases h5 : decide (20000 < wrapI .i64 (n * (l.length : Int))) with
  | true => rw [h1, h2, h3, h4, h5] at h; cases h
  | false =>
    have hl := (plas_at (of_decide_eq_true h1)).2.1
    have hw := h4
    simp only [S_within, Bool.and_eq_true, decide_eq_true_eq] at hw
    refine ⟨of_decide_eq_true h1, of_decide_eq_true h2, of_decide_eq_true h3, rfl, rfl, hl, n.toNat, by omega, by omega, ?_⟩
    obtain ⟨N, rfl⟩ : ∃ N : Nat, n = N := ⟨n.toNat, by omega⟩
    have hm : N * l.length ≤ 1000 * 1000 := Nat.mul_le_mul (by omega) hl
    have := of_decide_eq_false h5
    rw [← Int.natCast_mul, wrap64 (by omega) (by omega)] at this
    rw [Int.toNat_natCast]
    omega
end Go.VM
/- Chapter 10: picks take what there is. -/
namespace Go.VM
/-- slots rise -/
theorem reels_at {r : List Reel} (h : S_reels r = 0) : (∀ k (hk : k < r.length), 1 ≤ r[k].1 ∧ 0 ≤ r[k].2.2.1 ∧ r[k].2.2.1 ≤ 1000000) ∧ (∀ k m (hk : k < r.length) (hm : m < r.length), r[k].1 = r[m].1 → k = m) := by
  have hs : ∀ i a, r[i]? = some a → reelC r a i = 0 := by
    unfold S_reels at h
    cases hd : decide ((200 : Int) < (r.length : Int)) with
    | true => rw [hd] at h; cases h
    | false =>
      rw [hd, cond_false] at h
      intro i a hi
      have := first_zero r 0 h i a hi
      rw [Nat.zero_add] at this
      exact this
  have hc : ∀ k (hk : k < r.length), (1 ≤ r[k].1 ∧ 0 ≤ r[k].2.2.1 ∧ r[k].2.2.1 ≤ 1000000) ∧ (0 < k → (r.getD (k - 1) reel0).1 < r[k].1) := by
    intro k hk
    have := hs k _ (List.getElem?_eq_getElem hk)
    unfold reelC at this
    cases h1 : S_within r[k].1 1 10000 with
    | false => rw [h1] at this; cases this
    | true =>
    cases h2 : S_word r[k].2.1 with
    | false => rw [h1, h2] at this; cases this
    | true =>
    cases h3 : S_within r[k].2.2.1 0 1000000 with
    | false => rw [h1, h2, h3] at this; cases this
    | true =>
      simp only [h1, h2, h3, Bool.not_true, cond_false] at this
      simp only [S_within, Bool.and_eq_true, decide_eq_true_eq] at h1 h3
      refine ⟨⟨h1.1, h3.1, h3.2⟩, fun h0 => ?_⟩
      rw [decide_eq_true h0, cond_true] at this
      by_cases hle : r[k].1 ≤ (r.getD (k - 1) reel0).1
      · rw [decide_eq_true hle] at this; cases this
      · omega
  have hlt : ∀ j i (hi : i < r.length) (hj : j < r.length), i < j → r[i].1 < r[j].1 := by
    intro j
    induction j with
    | zero => intro i _ _ h; omega
    | succ j ih =>
      intro i hi hj hij
      have h1 := (hc (j + 1) hj).2 (by omega)
      rw [Nat.add_sub_cancel, getD_at (show j < r.length by omega)] at h1
      by_cases e : i = j
      · subst e; exact h1
      · have := ih i hi (by omega) (by omega); omega
  refine ⟨fun k hk => (hc k hk).1, fun k m hk hm e => ?_⟩
  rcases Nat.lt_trichotomy k m with h | h | h
  · have := hlt m k hk hm h; omega
  · exact h
  · have := hlt k m hm hk h; omega
/-- a pick takes from a reel that is not empty; where none is picked, none of the type is left -/
theorem pickR_pos (r : List Reel) (s : List Ins) (t : ByteArray) : ∀ k : Nat, S_pickR r s t = k → 0 < (r.getD k reel0).2.2.1 := by
  have one : ∀ t (k : Nat), S_reel1 r t = k → 0 < (r.getD k reel0).2.2.1 := by
    intro t k h
    rcases find_spec (p := reelP t) r with ⟨f1, _⟩ | ⟨m, a, f1, f2, f3, _⟩
    · unfold S_reel1 at h; omega
    · unfold S_reel1 at h
      have : m = k := by omega
      subst this
      have hm : m < r.length := (List.getElem?_eq_some_iff.1 f2).1
      rw [getD_at hm, (List.getElem?_eq_some_iff.1 f2).2]
      unfold reelP at f3
      simp only [Bool.and_eq_true, decide_eq_true_eq] at f3
      exact f3.2
  have key : ∀ (s : List Ins) (j : Int), (∀ k : Nat, j = k → 0 < (r.getD k reel0).2.2.1) → ∀ k : Nat, s.foldl (pickQ r t) j = k → 0 < (r.getD k reel0).2.2.1 := by
    intro s
    induction s with
    | nil => exact fun j h => h
    | cons x s ih =>
      intro j h
      refine ih _ ?_
      unfold pickQ
      cases decide (j < 0) with
      | false => exact h
      | true =>
        cases decide (x.1 = t) with
        | false => exact h
        | true => exact one _
  exact key s _ (one t)
theorem pickR_none (r : List Reel) (s : List Ins) (t : ByteArray) (h : S_pickR r s t < 0) : ∀ k (hk : k < r.length), r[k].2.1 = t → r[k].2.2.1 ≤ 0 := by
  have h1 : S_reel1 r t < 0 := by
    by_cases c : S_reel1 r t < 0
    · exact c
    · have := pickR_done r t s _ c
      unfold S_pickR at h
      omega
  rcases find_spec (p := reelP t) r with ⟨_, f2⟩ | ⟨m, a, f1, f2, f3, _⟩
  · intro k hk e
    have := f2 _ (List.getElem_mem hk)
    unfold reelP at this
    rw [decide_eq_true e, Bool.true_and] at this
    have := of_decide_eq_false this
    omega
  · unfold S_reel1 at h1
    omega
/-- what holds of the picks so far and what is left -/
structure Taken (l : List Pla) (r : List Reel) (L : Nat) (x : List Pick) (o : List Reel) : Prop where
  len : o.length = r.length
  same : ∀ k (hk : k < r.length) (hk' : k < o.length), o[k].1 = r[k].1 ∧ o[k].2.1 = r[k].2.1 ∧ 0 ≤ o[k].2.2.1 ∧ o[k].2.2.1 + ((x.countP fun p => decide (r[k].1 = p.2.2.2.1) : Nat) : Int) = r[k].2.2.1
  typ : ∀ p ∈ x, ∀ k (hk : k < r.length), r[k].1 = p.2.2.2.1 → r[k].2.1 = p.2.2.1
  non : ∀ p ∈ x, p.2.2.2.1 = 0 → ∀ k (hk : k < o.length), o[k].2.1 = p.2.2.1 → o[k].2.2.1 ≤ 0
  at_ : ∀ m (hm : m < x.length), x[m].1 = ((m / L : Nat) : Int) + 1 ∧ x[m].2.1 = (l.getD (m % L) pla0).1
theorem taken_step {l : List Pla} {r : List Reel} {s : List Ins} (hr : S_reels r = 0) {i j : Nat} (hj : j < l.length) {o : List Pick × List Reel} (T : Taken l r l.length o.1 o.2) (hx : o.1.length = i * l.length + j) :
    Taken l r l.length (stepP s ((i : Int) + 1) l[j] o).1 (stepP s ((i : Int) + 1) l[j] o).2 := by
  obtain ⟨x, o⟩ := o
  replace T : Taken l r l.length x o := T
  replace hx : x.length = i * l.length + j := hx
  obtain ⟨ra, rb⟩ := reels_at hr
  have hL : 0 < l.length := by omega
  have hat : ∀ (q : Pick), q.1 = (i : Int) + 1 → q.2.1 = l[j].1 → ∀ m (hm : m < (x ++ [q]).length), (x ++ [q])[m].1 = ((m / l.length : Nat) : Int) + 1 ∧ (x ++ [q])[m].2.1 = (l.getD (m % l.length) pla0).1 := by
    intro q q1 q2 m hm
    by_cases hm' : m < x.length
    · rw [List.getElem_append_left hm']; exact T.at_ m hm'
    · have hme : m = x.length := by simp at hm; omega
      subst hme
      simp only [List.getElem_append_right (Nat.le_refl _), Nat.sub_self, List.getElem_cons_zero]
      have e1 : x.length / l.length = i := by
        rw [hx, Nat.mul_comm, Nat.mul_add_div hL, Nat.div_eq_of_lt hj]; omega
      have e2 : x.length % l.length = j := by
        rw [hx, Nat.mul_comm, Nat.mul_add_mod, Nat.mod_eq_of_lt hj]
      rw [e1, e2, q1, q2, getD_at hj]
      exact ⟨rfl, rfl⟩
  unfold stepP
  rcases pickR_range o s l[j].2.1 with e | ⟨k, e, hk⟩
  · have hn := pickR_none o s l[j].2.1 (by omega)
    simp only [e, show decide ((0 : Int) ≤ -1) = false from rfl, cond_false]
    refine ⟨T.len, fun k hk hk' => ?_, fun p hp k hk he => ?_, fun p hp h0 k hk he => ?_, hat _ rfl rfl⟩
    · have := T.same k hk hk'
      rw [List.countP_append]
      have h1 := (ra k hk).1
      have : ([(((i : Int) + 1, l[j].1, l[j].2.1, 0, ()) : Pick)].countP fun p => decide (r[k].1 = p.2.2.2.1)) = 0 := by
        rw [List.countP_cons, List.countP_nil, decide_eq_false (show ¬ r[k].1 = 0 by omega)]; rfl
      rw [this]; simpa using T.same k hk hk'
    · rcases List.mem_append.1 hp with hp | hp
      · exact T.typ p hp k hk he
      · rw [List.mem_singleton] at hp
        subst hp
        have := (ra k hk).1
        simp only at he; omega
    · rcases List.mem_append.1 hp with hp | hp
      · exact T.non p hp h0 k hk he
      · rw [List.mem_singleton] at hp
        subst hp
        exact hn k hk he
  · have hp0 := pickR_pos o s l[j].2.1 k e
    rw [getD_at hk] at hp0
    have hkr : k < r.length := by have := T.len; omega
    simp only [e, show decide ((0 : Int) ≤ (k : Int)) = true from decide_eq_true (by omega), cond_true, Int.toNat_natCast]
    have hsk := T.same k hkr hk
    have hrk := ra k hkr
    have hso : setR o k = o.set k (o[k].1, o[k].2.1, o[k].2.2.1 - 1, o[k].2.2.2) := by
      unfold setR
      rw [getD_at hk, wrap64 (by omega) (by omega)]
    have hg : (o.set k (o[k].1, o[k].2.1, o[k].2.2.1 - 1, o[k].2.2.2)).getD k reel0 = (o[k].1, o[k].2.1, o[k].2.2.1 - 1, o[k].2.2.2) := by
      rw [getD_at (by rw [List.length_set]; exact hk), List.getElem_set_self]
    rw [hso, hg]
    have hle : ∀ m (hm : m < (o.set k (o[k].1, o[k].2.1, o[k].2.2.1 - 1, o[k].2.2.2)).length) (hm' : m < o.length), (o.set k (o[k].1, o[k].2.1, o[k].2.2.1 - 1, o[k].2.2.2))[m].1 = o[m].1 ∧ (o.set k (o[k].1, o[k].2.1, o[k].2.2.1 - 1, o[k].2.2.2))[m].2.1 = o[m].2.1 ∧ (o.set k (o[k].1, o[k].2.1, o[k].2.2.1 - 1, o[k].2.2.2))[m].2.2.1 = (if k = m then o[m].2.2.1 - 1 else o[m].2.2.1) := by
      intro m hm hm'
      rw [List.getElem_set]
      by_cases c : k = m
      · subst c; simp
      · simp [c]
    refine ⟨by rw [List.length_set]; exact T.len, fun m hm hm' => ?_, fun p hp m hm he => ?_, fun p hp h0 m hm he => ?_, hat _ rfl rfl⟩
    · rw [List.length_set] at hm'
      obtain ⟨a1, a2, a3⟩ := hle m (by rw [List.length_set]; exact hm') hm'
      obtain ⟨b1, b2, b3, b4⟩ := T.same m hm hm'
      rw [a1, a2, a3]
      refine ⟨b1, b2, ?_⟩
      rw [List.countP_append, List.countP_cons, List.countP_nil]
      by_cases c : k = m
      · subst c
        rw [if_pos rfl, decide_eq_true (show r[k].1 = o[k].1 from b1.symm)]
        simp only [if_true]
        omega
      · rw [if_neg c, decide_eq_false (show ¬ r[m].1 = o[k].1 from fun h => c (rb k m hkr hm (by rw [← hsk.1, h])))]
        simp only [Bool.false_eq_true, if_false]
        omega
    · rcases List.mem_append.1 hp with hp | hp
      · exact T.typ p hp m hm he
      · rw [List.mem_singleton] at hp
        subst hp
        simp only at he ⊢
        have : m = k := rb m k hm hkr (by rw [he, hsk.1])
        subst this
        exact hsk.2.1.symm
    · have hm' : m < o.length := by rw [List.length_set] at hm; exact hm
      obtain ⟨a1, a2, a3⟩ := hle m hm hm'
      rw [a2] at he
      rw [a3]
      rcases List.mem_append.1 hp with hp | hp
      · have := T.non p hp h0 m hm' he
        split <;> omega
      · rw [List.mem_singleton] at hp
        subst hp
        simp only at h0
        have := hsk.1
        omega
theorem picks_taken {l : List Pla} {r : List Reel} {s : List Ins} (hr : S_reels r = 0) (N : Nat) : Taken l r l.length (S_picksL l r s N).1 (S_picksL l r s N).2 ∧ (S_picksL l r s N).1.length = N * l.length := by
  have h0 : Taken l r l.length [] r := ⟨rfl, fun k hk _ => ⟨rfl, rfl, ((reels_at hr).1 k hk).2.1, by simp⟩, fun p hp => (by cases hp), fun p hp => (by cases hp), fun m hm => (by cases hm)⟩
  have := foldI_inv (f := fun (_ : Unit) i o => boardP s l i o) (fun i o => Taken l r l.length o.1 o.2 ∧ o.1.length = i * l.length) (List.replicate N ()) 0 ([], r) ⟨h0, by simp⟩ (fun i a o _ hI => by
    obtain ⟨T, hx⟩ := hI
    rw [Nat.zero_add] at *
    have := foldI_inv (f := fun p _ o => stepP s ((i : Int) + 1) p o) (fun j o => Taken l r l.length o.1 o.2 ∧ o.1.length = i * l.length + j) l 0 o ⟨T, hx⟩ (fun j p o' hj hJ => by
      rw [Nat.zero_add] at *
      obtain ⟨hjl, rfl⟩ := List.getElem?_eq_some_iff.1 hj
      exact ⟨taken_step hr hjl hJ.1 hJ.2, by rw [stepP_len, hJ.2]; omega⟩)
    rw [Nat.zero_add] at this
    exact ⟨this.1, by rw [Nat.succ_mul]; exact this.2⟩)
  rw [Nat.zero_add, List.length_replicate] at this
  exact this
/-- how often each reel gave -/
def giveF (q : Int) (y : Reel) (k : Nat) (g : List Int) : List Int := bif decide (y.1 = q) then g.set k (wrapI .i64 (g.getD k 0 + 1)) else g
def cntS (q : Int) (x : List Pick) : Nat := x.countP fun p => decide (q = p.2.2.2.1)
def GaveI (r : List Reel) (c : Int → Nat) (g : List Int) : Prop := g.length = r.length ∧ ∀ m (hm : m < r.length), g.getD m 0 = (c r[m].1 : Int)
theorem foldI_append {α σ : Type} {f : α → Nat → σ → σ} : ∀ (l r : List α) (i : Nat) (s : σ), foldI f (l ++ r) i s = foldI f r (i + l.length) (foldI f l i s)
  | [], _, _, _ => rfl
  | a :: l, r, i, s => by
    rw [List.cons_append, foldI, foldI, foldI_append l r, List.length_cons]
    congr 1; omega
theorem give_inner {r : List Reel} {c : Int → Nat} (hc : ∀ q, c q ≤ 1000000) {q : Int} {g : List Int} (h : GaveI r c g) : ∀ k, k ≤ r.length → ∀ g', g' = foldI (giveF q) (r.take k) 0 g → g'.length = r.length ∧ ∀ m (hm : m < r.length), g'.getD m 0 = (c r[m].1 : Int) + (if m < k ∧ r[m].1 = q then 1 else 0) := by
  intro k
  induction k with
  | zero => intro _ g' e; subst e; exact ⟨h.1, fun m hm => by rw [if_neg (by omega)]; simpa [foldI] using h.2 m hm⟩
  | succ k ih =>
    intro hk g' e
    obtain ⟨i1, i2⟩ := ih (by omega) _ rfl
    have hkr : k < r.length := by omega
    have es : foldI (giveF q) (r.take (k + 1)) 0 g = giveF q r[k] k (foldI (giveF q) (r.take k) 0 g) := by
      rw [List.take_succ_eq_append_getElem hkr, foldI_append]
      simp only [foldI, List.length_take, Nat.min_eq_left (Nat.le_of_lt hkr), Nat.zero_add]
    rw [es] at e
    generalize foldI (giveF q) (r.take k) 0 g = g1 at *
    subst e
    unfold giveF
    by_cases hq : r[k].1 = q
    · rw [decide_eq_true hq, cond_true]
      refine ⟨by rw [List.length_set]; exact i1, fun m hm => ?_⟩
      have hck := hc r[k].1
      have hv := i2 k hkr
      rw [if_neg (by omega)] at hv
      by_cases hmk : m = k
      · subst hmk
        rw [getD_at (by rw [List.length_set]; omega), List.getElem_set_self, hv, if_pos ⟨by omega, hq⟩, wrap64 (by omega) (by omega)]
        omega
      · have := i2 m hm
        rw [getD_at (by omega)] at this
        rw [getD_at (by rw [List.length_set]; omega), List.getElem_set_ne (by omega), this]
        by_cases c1 : m < k ∧ r[m].1 = q
        · rw [if_pos c1, if_pos ⟨by omega, c1.2⟩]
        · rw [if_neg c1, if_neg (fun c2 => c1 ⟨by omega, c2.2⟩)]
    · rw [decide_eq_false hq, cond_false]
      refine ⟨i1, fun m hm => ?_⟩
      rw [i2 m hm]
      by_cases hmk : m = k
      · subst hmk; rw [if_neg (by omega), if_neg (fun c2 => hq c2.2)]
      · by_cases c1 : m < k ∧ r[m].1 = q
        · rw [if_pos c1, if_pos ⟨by omega, c1.2⟩]
        · rw [if_neg c1, if_neg (fun c2 => c1 ⟨by omega, c2.2⟩)]
theorem give_all {r : List Reel} {c : Int → Nat} (hc : ∀ q, c q ≤ 1000000) {q : Int} {g : List Int} (h : GaveI r c g) : GaveI r (fun s => c s + (if s = q then 1 else 0)) (foldI (giveF q) r 0 g) := by
  obtain ⟨i1, i2⟩ := give_inner hc (q := q) h r.length (Nat.le_refl _) _ rfl
  rw [List.take_length] at i1 i2
  refine ⟨i1, fun m hm => ?_⟩
  rw [i2 m hm]
  by_cases c1 : r[m].1 = q
  · show _ = ((c r[m].1 + (if r[m].1 = q then 1 else 0) : Nat) : Int)
    rw [if_pos ⟨hm, c1⟩, if_pos c1]; rfl
  · show _ = ((c r[m].1 + (if r[m].1 = q then 1 else 0) : Nat) : Int)
    rw [if_neg (fun c2 => c1 c2.2), if_neg c1]; rfl
def leftF (t : ByteArray) (a : Reel) (_ : Nat) (n : Int) : Int := bif decide (a.2.1 = t) then wrapI .i64 (n + a.2.2.1) else n
theorem left_none {t : ByteArray} : ∀ (l : List Reel) (i : Nat), (∀ a ∈ l, a.2.1 = t → a.2.2.1 = 0) → foldI (leftF t) l i 0 = 0
  | [], _, _ => rfl
  | a :: l, i, h => by
    have : leftF t a i 0 = 0 := by
      unfold leftF
      by_cases c : a.2.1 = t
      · rw [decide_eq_true c, cond_true, h a List.mem_cons_self c]; rfl
      · rw [decide_eq_false c]; rfl
    rw [foldI, this]
    exact left_none l (i + 1) (fun b hb => h b (List.mem_cons_of_mem _ hb))
end Go.VM
