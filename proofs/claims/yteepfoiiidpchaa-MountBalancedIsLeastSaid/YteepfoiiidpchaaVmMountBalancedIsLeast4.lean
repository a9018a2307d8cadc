/- A typed evaluator of the model and its soundness, part 4: for every program whose types pass a check. -/
import Derived.Test.YteepfoiiidpchaaVmMountBalancedIsLeast3
/- Chapter 8, plainly: points, ways, the greedy order. -/
namespace Go.VM
abbrev Pt := Int × Int × Unit
def pt0 : Pt := (0, (0, ()))
def S_within (n lo hi : Int) : Bool := decide (lo ≤ n) && decide (n ≤ hi)
abbrev Hole := (Int × (Int × Unit)) × (Int × (Int × (Bool × Unit)))
abbrev Pr := Int × (Int × (Int × Unit))
def hole0 : Hole := ((0, (0, ())), (0, (0, (false, ()))))
/-- how far it is through points, by a distance of one's own -/
def wayF (d : Pt → Pt → Int) (a : Pt) (_ : Nat) (s : Int × Pt) : Int × Pt := (wrapI .i64 (s.1 + d s.2 a), a)
def S_way (d : Pt → Pt → Int) (l : List Pt) (p : Pt) : Int := (foldI (wayF d) l 0 (0, p)).1
/-- the nearest point that is left -/
def pickF (d : Pt → Pt → Int) (l : List Pt) (used : List Bool) (p : Pt) (a : Pt) (i : Nat) (b : Int) : Int :=
  bif !(used.getD i false) then (bif decide (b < 0) then (i : Int) else bif decide (d p a < d p (l.getD b.toNat pt0)) then (i : Int) else b) else b
def S_pick (d : Pt → Pt → Int) (l : List Pt) (used : List Bool) (p : Pt) : Int := foldI (pickF d l used p) l 0 (-1)
def greedyB {A : Type} (d : Pt → Pt → Int) (l : List Pt) (_ : Pt) (_ : Nat) (s : List Int × Pt × List Bool) : (List Int × Pt × List Bool) ⊕ Option A :=
  bif inB (S_pick d l s.2.2 s.2.1) l.length then .inl (s.1 ++ [S_pick d l s.2.2 s.2.1], l.getD (S_pick d l s.2.2 s.2.1).toNat pt0, s.2.2.set (S_pick d l s.2.2 s.2.1).toNat true) else .inr none
def S_greedy (d : Pt → Pt → Int) (l : List Pt) (p : Pt) : Option (List Int) :=
  goL (greedyB d l) (fun s => some s.1) l 0 ([], p, List.replicate l.length false)
theorem greedy_map {A : Type} (d : Pt → Pt → Int) (l : List Pt) (g : List Int → A) : ∀ (r : List Pt) (i : Nat) (s : List Int × Pt × List Bool), goL (greedyB d l) (fun s => some (g s.1)) r i s = (goL (greedyB d l) (fun s => some s.1) r i s).map g
  | [], _, _ => rfl
  | a :: r, i, s => by
    simp only [goL, greedyB]
    cases inB (S_pick d l s.2.2 s.2.1) l.length with
    | true => exact greedy_map d l g r (i + 1) _
    | false => rfl
theorem pick_inv (d : Pt → Pt → Int) (l : List Pt) (used : List Bool) (p : Pt) : -1 ≤ S_pick d l used p ∧ S_pick d l used p < (l.length : Int) := by
  have := foldI_inv (f := pickF d l used p) (fun i b => -1 ≤ b ∧ b < (i : Int)) l 0 (-1) (by simp) (fun j a b hj hI => by
    simp only [pickF]
    cases used.getD (0 + j) false with
    | true => simp only [Bool.not_true, cond_false]; omega
    | false =>
      simp only [Bool.not_false, cond_true]
      cases decide (b < 0) with
      | true => simp only [cond_true]; omega
      | false =>
        simp only [cond_false]
        cases decide (d p a < d p (l.getD b.toNat pt0)) with
        | true => simp only [cond_true]; omega
        | false => simp only [cond_false]; omega)
  simpa [S_pick] using this
def inR (p : Pt) : Prop := -1000000 ≤ p.1 ∧ p.1 ≤ 1000000 ∧ -1000000 ≤ p.2.1 ∧ p.2.1 ≤ 1000000
end Go.VM
namespace Go.VM
theorem eqPt (x a : Pt) : Ty.eqv (.pair (.int .i64) (.pair (.int .i64) .unit)) x a = decide (x = a) := by
  obtain ⟨x1, x2, ⟨⟩⟩ := x
  obtain ⟨a1, a2, ⟨⟩⟩ := a
  simp only [Ty.eqv]
  rw [Bool.eq_iff_iff]
  simp
/-- pairs that are near, by a gap of one's own -/
def nearF (g : Hole → Hole → Int) (below : Int) (i : Nat) (a : Hole) (b : Hole) (k : Nat) (o : List Pr) : List Pr :=
  bif decide (g a b < below) then (bif !(decide (a.1 = b.1)) then o ++ [((i : Int), ((k : Int), (g a b, ())))] else o) else o
def S_near (g : Hole → Hole → Int) (l : List Hole) (below : Int) : List Pr := foldI (fun a i o => foldI (nearF g below i a) (l.drop (i + 1)) (i + 1) o) l 0 []
theorem near_len {g : Hole → Hole → Int} {below : Int} {i : Nat} {a b : Hole} {k : Nat} {o : List Pr} : (nearF g below i a b k o).length ≤ o.length + 1 := by
  unfold nearF
  cases decide (g a b < below) <;> cases decide (a.1 = b.1) <;> simp
theorem near_in1 {g : Hole → Hole → Int} {below : Int} {i : Nat} {a : Hole} {p : Pr} : ∀ (r : List Hole) (k0 : Nat) (o : List Pr), p ∈ foldI (nearF g below i a) r k0 o ↔ p ∈ o ∨ ∃ k b, r[k]? = some b ∧ g a b < below ∧ a.1 ≠ b.1 ∧ p = ((i : Int), (((k0 + k : Nat) : Int), (g a b, ())))
  | [], k0, o => by simp [foldI]
  | c :: r, k0, o => by
    simp only [foldI]
    rw [near_in1 r (k0 + 1) _]
    constructor
    · rintro (h | ⟨k, b, h1, h2, h3, h4⟩)
      · unfold nearF at h
        by_cases c1 : g a c < below
        · by_cases c2 : a.1 = c.1
          · simp [c1, c2] at h; exact .inl h
          · simp [c1, c2] at h
            rcases h with h | h
            · exact .inl h
            · exact .inr ⟨0, c, rfl, c1, c2, by simpa using h⟩
        · simp [c1] at h; exact .inl h
      · exact .inr ⟨k + 1, b, by simpa using h1, h2, h3, by rw [h4]; congr 3; omega⟩
    · rintro (h | ⟨k, b, h1, h2, h3, h4⟩)
      · left
        unfold nearF
        cases decide (g a c < below) <;> cases decide (a.1 = c.1) <;> simp [h]
      · cases k with
        | zero =>
          simp at h1; subst h1
          left
          unfold nearF
          simp [h2, h3, h4]
        | succ k => exact .inr ⟨k, b, by simpa using h1, h2, h3, by rw [h4]; congr 3; omega⟩
theorem near_in {g : Hole → Hole → Int} {l : List Hole} {below : Int} {p : Pr} : p ∈ S_near g l below ↔ ∃ (i k : Nat) (a b : Hole), l[i]? = some a ∧ l[k]? = some b ∧ i < k ∧ g a b < below ∧ a.1 ≠ b.1 ∧ p = ((i : Int), ((k : Int), (g a b, ()))) := by
  have key : ∀ (r : List Hole) (i0 : Nat) (o : List Pr), p ∈ foldI (fun a i o => foldI (nearF g below i a) (l.drop (i + 1)) (i + 1) o) r i0 o ↔ p ∈ o ∨ ∃ (i k : Nat) (a b : Hole), r[i]? = some a ∧ (l.drop (i0 + i + 1))[k]? = some b ∧ g a b < below ∧ a.1 ≠ b.1 ∧ p = (((i0 + i : Nat) : Int), (((i0 + i + 1 + k : Nat) : Int), (g a b, ()))) := by
    intro r
    induction r with
    | nil => intro i0 o; simp [foldI]
    | cons c r ih =>
      intro i0 o
      simp only [foldI]
      rw [ih (i0 + 1), near_in1]
      constructor
      · rintro ((h | ⟨k, b, h1, h2, h3, h4⟩) | ⟨i, k, a, b, h1, h2, h3, h4, h5⟩)
        · exact .inl h
        · exact .inr ⟨0, k, c, b, rfl, h1, h2, h3, h4⟩
        · exact .inr ⟨i + 1, k, a, b, by simpa using h1, by rw [← h2]; congr 2; omega, h3, h4, by rw [h5]; simp only [Prod.mk.injEq, and_true]; omega⟩
      · rintro (h | ⟨i, k, a, b, h1, h2, h3, h4, h5⟩)
        · exact .inl (.inl h)
        · cases i with
          | zero => simp at h1; subst h1; exact .inl (.inr ⟨k, b, h2, h3, h4, h5⟩)
          | succ i => exact .inr ⟨i, k, a, b, by simpa using h1, by rw [← h2]; congr 2; omega, h3, h4, by rw [h5]; simp only [Prod.mk.injEq, and_true]; omega⟩
  unfold S_near
  rw [key]
  constructor
  · rintro (h | ⟨i, k, a, b, h1, h2, h3, h4, h5⟩)
    · cases h
    · rw [List.getElem?_drop] at h2
      exact ⟨i, 0 + i + 1 + k, a, b, h1, h2, by omega, h3, h4, by rw [h5]; simp only [Prod.mk.injEq, and_true]; omega⟩
  · rintro ⟨i, k, a, b, h1, h2, h3, h4, h5, h6⟩
    exact .inr ⟨i, k - (i + 1), a, b, h1, by rw [List.getElem?_drop]; rw [← h2]; congr 1; omega, h4, h5, by rw [h6]; simp only [Prod.mk.injEq, and_true]; omega⟩
end Go.VM
/- Chapter 10, plainly: sums of loads. -/
namespace Go.VM
/-- a loop with a known end -/
theorem loop_meas {S A : Type} {step : (S → Option A) → S → Option A} (P : S → Prop) (m : S → Nat) (R : Option A)
    (hs : ∀ s, P s → (∀ rec, step rec s = R) ∨ ∃ s', P s' ∧ m s' < m s ∧ ∀ rec, step rec s = rec s') : ∀ n s, P s → m s < n → loopN step n s = R
  | 0, s, _, h => absurd h (Nat.not_lt_zero _)
  | n + 1, s, hP, h => by
    rw [loopN_succ]
    rcases hs s hP with e | ⟨s', hP', hm, e⟩
    · exact e _
    · rw [e]; exact loop_meas P m R hs n s' hP' (by omega)
/-- the sums of some loads: one row from the next -/
def mixL (p : List Bool) (k s : Nat) : List Bool := (List.range p.length).map fun t => p.getD t false || (decide (k ≤ t) && decide (t < s) && p.getD (t - k) false)
def rowL (N : Nat) : List Int → List Bool
  | [] => (List.replicate (N + 1) false).set 0 true
  | a :: r => mixL (rowL N r) a.toNat (N + 1)
theorem mixL_length (p : List Bool) (k s : Nat) : (mixL p k s).length = p.length := by simp [mixL]
theorem rowL_length (N : Nat) : ∀ l, (rowL N l).length = N + 1
  | [] => by simp [rowL]
  | a :: r => by rw [rowL, mixL_length, rowL_length N r]
theorem mixL_at {p : List Bool} {k s t : Nat} (h : t < p.length) : (mixL p k s).getD t false = (p.getD t false || (decide (k ≤ t) && decide (t < s) && p.getD (t - k) false)) := by
  unfold mixL
  rw [List.getD_eq_getElem?_getD, List.getElem?_map, List.getElem?_range h]
  rfl
theorem ext_getD {α : Type} {d : α} {a b : List α} (hl : a.length = b.length) (h : ∀ t, t < a.length → a.getD t d = b.getD t d) : a = b := by
  apply List.ext_getElem hl
  intro t h1 h2
  have := h t h1
  rwa [getD_at h1, getD_at h2] at this
theorem getD_set {α : Type} {d : α} {a : List α} {i t : Nat} {v : α} (h : i < a.length) : (a.set i v).getD t d = if t = i then v else a.getD t d := by
  rw [List.getD_eq_getElem?_getD, List.getD_eq_getElem?_getD, List.getElem?_set]
  by_cases e : i = t
  · subst e; simp [h]
  · simp [e, Ne.symm e]
theorem mixL_start (p : List Bool) (k : Nat) : mixL p k k = p := by
  refine ext_getD (d := false) (mixL_length ..) fun t h => ?_
  rw [mixL_length] at h
  rw [mixL_at h]
  by_cases e : k ≤ t
  · have : ¬ t < k := by omega
    simp [this]
  · simp [e]
theorem mixL_step {p : List Bool} {k s : Nat} (hk : k ≤ s) (hs : s < p.length) : (mixL p k s).set s (p.getD s false || p.getD (s - k) false) = mixL p k (s + 1) := by
  refine ext_getD (d := false) (by simp [mixL_length]) fun t h => ?_
  rw [List.length_set, mixL_length] at h
  rw [getD_set (by rw [mixL_length]; exact hs), mixL_at h, mixL_at h]
  by_cases e : t = s
  · subst e; simp [hk]
  · have : (t < s) ↔ (t < s + 1) := by omega
    simp [e, this]
theorem mixL_old {p : List Bool} {k s : Nat} (hs : s < p.length) : (mixL p k s).getD s false = p.getD s false := by
  rw [mixL_at hs]; simp
/-- whether one of a list is so -/
def anyI {α : Type} (P : α → Nat → Bool) : List α → Nat → Bool
  | [], _ => false
  | a :: r, i => P a i || anyI P r (i + 1)
theorem goL_any {α A : Type} {P : α → Nat → Bool} {z e : A} : ∀ (l : List α) (i : Nat), goL (fun a i (_ : Unit) => bif P a i then .inr (some z) else .inl ()) (fun _ => some e) l i () = some (bif anyI P l i then z else e)
  | [], _ => rfl
  | a :: r, i => by
    simp only [goL, anyI]
    cases P a i with
    | true => rfl
    | false => simpa using goL_any r (i + 1)
theorem anyI_iff {α : Type} {P : α → Nat → Bool} : ∀ (l : List α) (i : Nat), anyI P l i = true ↔ ∃ k a, l[k]? = some a ∧ P a (i + k) = true
  | [], i => by simp [anyI]
  | a :: r, i => by
    simp only [anyI, Bool.or_eq_true]
    rw [anyI_iff r (i + 1)]
    constructor
    · rintro (h | ⟨k, b, h1, h2⟩)
      · exact ⟨0, a, rfl, h⟩
      · exact ⟨k + 1, b, by simpa using h1, by rw [show i + (k + 1) = i + 1 + k by omega]; exact h2⟩
    · rintro ⟨k, b, h1, h2⟩
      cases k with
      | zero => simp at h1; subst h1; exact .inl h2
      | succ k => exact .inr ⟨k, b, by simpa using h1, by rw [show i + 1 + k = i + (k + 1) by omega]; exact h2⟩
def tabL (N : Nat) (l : List Int) : List (List Bool) := (List.range (l.length + 1)).map fun j => rowL N (l.drop j)
theorem tabL_length (N : Nat) (l : List Int) : (tabL N l).length = l.length + 1 := by simp [tabL]
theorem tabL_at {N : Nat} {l : List Int} {j : Nat} (h : j ≤ l.length) : (tabL N l).getD j [] = rowL N (l.drop j) := by
  unfold tabL
  rw [List.getD_eq_getElem?_getD, List.getElem?_map, List.getElem?_range (by omega)]
  rfl
theorem tab_inner {A : Type} (l : List Int) (hl : l.length ≤ 30) (N : Nat) (hN : N ≤ 30000) (T : List (List Bool)) (k : Nat) (hk : k < l.length) (hT : T.length = l.length + 1) (a : Nat) (hla : l[k] = (a : Int)) (haN : a ≤ N) (p : List Bool) (hp : T.getD (k + 1) [] = p) (hpl : p.length = N + 1) (K : List (List Bool) → Option A) (n : Nat) (hn : N + 2 < n) :
    loopN (fun rec4 => fun
      | ((v4aa, ()), (v4ba, ())) =>
        (bif decide ((v4aa ≤ (N : Int))) then
          (bif inB ((k : Nat) : Int) v4ba.length then
            (bif inB ((k : Nat) : Int) v4ba.length then
              (bif inB v4aa ((v4ba.getD ((k : Nat) : Int).toNat []).length) then
                (bif (v4ba.getD ((k : Nat) : Int).toNat []).getD v4aa.toNat false then
                  (bif inB v4aa ((v4ba.getD ((k : Nat) : Int).toNat []).length) then
                    rec4 ((wrapI .i64 (v4aa + 1), ()), (v4ba.set ((k : Nat) : Int).toNat ((v4ba.getD ((k : Nat) : Int).toNat []).set v4aa.toNat true), ()))
                  else
                    none)
                else
                  (bif inB (wrapI .i64 (((k : Nat) : Int) + 1)) v4ba.length then
                    (bif inB ((k : Nat) : Int) l.length then
                      (bif inB (wrapI .i64 (v4aa - l.getD ((k : Nat) : Int).toNat 0)) ((v4ba.getD ((wrapI .i64 (((k : Nat) : Int) + 1)).toNat) []).length) then
                        (bif inB v4aa ((v4ba.getD ((k : Nat) : Int).toNat []).length) then
                          rec4 ((wrapI .i64 (v4aa + 1), ()), (v4ba.set ((k : Nat) : Int).toNat ((v4ba.getD ((k : Nat) : Int).toNat []).set v4aa.toNat ((v4ba.getD ((wrapI .i64 (((k : Nat) : Int) + 1)).toNat) []).getD ((wrapI .i64 (v4aa - l.getD ((k : Nat) : Int).toNat 0)).toNat) false)), ()))
                        else
                          none)
                      else
                        none)
                    else
                      none)
                  else
                    none))
              else
                none)
            else
              none)
          else
            none)
        else
          K v4ba)) n ((l.getD ((k : Nat) : Int).toNat 0, ()), (T.set ((k : Nat) : Int).toNat p, ())) = K (T.set k (mixL p a (N + 1))) := by
  refine loop_meas (fun x => ∃ s : Nat, a ≤ s ∧ s ≤ N + 1 ∧ x = (((s : Int), ()), (T.set k (mixL p a s), ()))) (fun x => N + 1 - x.1.1.toNat) _ ?_ n _ ⟨a, Nat.le_refl _, by omega, ?_⟩ (by simp only [getD_lt hk, hla, Int.toNat_natCast]; omega)
  · rintro _ ⟨s, h1, h2, rfl⟩
    by_cases hs : s ≤ N
    · right
      refine ⟨((((s + 1 : Nat) : Int), ()), (T.set k (mixL p a (s + 1)), ())), ⟨s + 1, by omega, by omega, rfl⟩, ?_, fun rec => ?_⟩
      · show N + 1 - (((s + 1 : Nat) : Int)).toNat < N + 1 - ((s : Int)).toNat
        rw [Int.toNat_natCast, Int.toNat_natCast]; omega
      · have hd : decide ((s : Int) ≤ (N : Int)) = true := decide_eq_true (by omega)
        have hm : (mixL p a s).length = N + 1 := (mixL_length ..).trans hpl
        have ik : inB ((k : Nat) : Int) (T.set k (mixL p a s)).length = true := inB_nat (by rw [List.length_set]; omega)
        have ik1 : inB ((k + 1 : Nat) : Int) (T.set k (mixL p a s)).length = true := inB_nat (by rw [List.length_set]; omega)
        have gk : (T.set k (mixL p a s)).getD k [] = mixL p a s := by rw [getD_set (by omega), if_pos rfl]
        have gk1 : (T.set k (mixL p a s)).getD (k + 1) [] = p := by rw [getD_set (by omega), if_neg (by omega)]; exact hp
        have is : inB (s : Int) (mixL p a s).length = true := inB_nat (by omega)
        have ms : (mixL p a s).getD s false = p.getD s false := mixL_old (by omega)
        have w1 : wrapI .i64 (((k : Nat) : Int) + 1) = ((k + 1 : Nat) : Int) := (wrap64 (by omega) (by omega)).trans (by omega)
        have w2 : wrapI .i64 ((s : Int) + 1) = ((s + 1 : Nat) : Int) := (wrap64 (by omega) (by omega)).trans (by omega)
        have w3 : wrapI .i64 ((s : Int) - l.getD k 0) = ((s - a : Nat) : Int) := by rw [getD_at hk, hla]; exact (wrap64 (by omega) (by omega)).trans (by omega)
        have i3 : inB ((s - a : Nat) : Int) p.length = true := inB_nat (by omega)
        have st := mixL_step (p := p) h1 (by omega)
        simp only [hd, ik, gk, is, ms, w1, w2, w3, ik1, gk1, i3, inB_nat hk, cond_true, Int.toNat_natCast, List.set_set]
        cases hc : p.getD s false with
        | true => rw [hc, Bool.true_or] at st; rw [cond_true, st]
        | false => rw [hc, Bool.false_or] at st; rw [cond_false, st]
    · left
      intro rec
      obtain rfl : s = N + 1 := by omega
      have : decide (((N + 1 : Nat) : Int) ≤ (N : Int)) = false := decide_eq_false (by omega)
      simp only [this, cond_false]
  · rw [getD_lt hk, hla, mixL_start, Int.toNat_natCast]
theorem tab_loop {A : Type} (C : List Bool → Option ((List Bool × Unit) × Unit × Unit)) (hC : ∀ p, p.length ≤ 30001 → C p = some ((p, ()), (), ())) (l : List Int) (hl : l.length ≤ 30) (N : Nat) (hN : N ≤ 30000) (ha : ∀ a, a ∈ l → 0 ≤ a ∧ a ≤ (N : Int)) (T : List (List Bool)) (hT : T.length = l.length + 1) (hT0 : T.getD l.length [] = rowL N []) (K : List (List Bool) → Option A) (n : Nat) (hn : N + 40 < n) :
    loopN (fun rec2 => fun
      | ((v2aa, ()), (v2ba, ())) =>
        (bif decide ((0 ≤ v2aa)) then
          (bif inB (wrapI .i64 (v2aa + 1)) v2ba.length then
            ((C (v2ba.getD ((wrapI .i64 (v2aa + 1)).toNat) [])).bind fun ((r3aa, ()), ((), ())) =>
            (bif inB v2aa v2ba.length then
              (bif inB v2aa l.length then
                loopN (fun rec4 => fun
                | ((v4aa, ()), (v4ba, ())) =>
                  (bif decide ((v4aa ≤ (N : Int))) then
                    (bif inB v2aa v4ba.length then
                      (bif inB v2aa v4ba.length then
                        (bif inB v4aa ((v4ba.getD v2aa.toNat []).length) then
                          (bif (v4ba.getD v2aa.toNat []).getD v4aa.toNat false then
                            (bif inB v4aa ((v4ba.getD v2aa.toNat []).length) then
                              rec4 ((wrapI .i64 (v4aa + 1), ()), (v4ba.set v2aa.toNat ((v4ba.getD v2aa.toNat []).set v4aa.toNat true), ()))
                            else
                              none)
                          else
                            (bif inB (wrapI .i64 (v2aa + 1)) v4ba.length then
                              (bif inB v2aa l.length then
                                (bif inB (wrapI .i64 (v4aa - l.getD v2aa.toNat 0)) ((v4ba.getD ((wrapI .i64 (v2aa + 1)).toNat) []).length) then
                                  (bif inB v4aa ((v4ba.getD v2aa.toNat []).length) then
                                    rec4 ((wrapI .i64 (v4aa + 1), ()), (v4ba.set v2aa.toNat ((v4ba.getD v2aa.toNat []).set v4aa.toNat ((v4ba.getD ((wrapI .i64 (v2aa + 1)).toNat) []).getD ((wrapI .i64 (v4aa - l.getD v2aa.toNat 0)).toNat) false)), ()))
                                  else
                                    none)
                                else
                                  none)
                              else
                                none)
                            else
                              none))
                        else
                          none)
                      else
                        none)
                    else
                      none)
                  else
                    rec2 ((wrapI .i64 (v2aa - 1), ()), (v4ba, ()))))
                n ((l.getD v2aa.toNat 0, ()), (v2ba.set v2aa.toNat r3aa, ()))
              else
                none)
            else
              none))
          else
            none)
        else
          K v2ba)) n ((wrapI .i64 (((l.length : Nat) : Int) - 1), ()), (T, ())) = K (tabL N l) := by
  refine loop_meas (fun x => ∃ (i : Nat) (T : List (List Bool)), i ≤ l.length ∧ T.length = l.length + 1 ∧ (∀ j, i ≤ j → j ≤ l.length → T.getD j [] = rowL N (l.drop j)) ∧ x = (((i : Int) - 1, ()), (T, ()))) (fun x => (x.1.1 + 1).toNat) _ ?_ n _ ⟨l.length, T, Nat.le_refl _, hT, fun j h1 h2 => ?_, ?_⟩ ?_
  · rintro _ ⟨i, T, h1, h2, h3, rfl⟩
    cases i with
    | zero =>
      left
      intro rec
      have : decide (0 ≤ ((0 : Nat) : Int) - 1) = false := rfl
      simp only [this, cond_false]
      have : T = tabL N l := ext_getD (d := []) (by rw [h2, tabL_length]) fun t ht => by rw [h3 t (Nat.zero_le _) (by omega), tabL_at (by omega)]
      rw [this]
    | succ k =>
      right
      have e : ((k + 1 : Nat) : Int) - 1 = (k : Int) := by omega
      rw [e]
      have hk : k < l.length := by omega
      obtain ⟨a0, aN⟩ := ha _ (List.getElem_mem hk)
      have hla : l[k] = ((l[k].toNat : Nat) : Int) := by omega
      have hr : T.getD (k + 1) [] = rowL N (l.drop (k + 1)) := h3 _ (Nat.le_refl _) h1
      have w1 : wrapI .i64 (((k : Nat) : Int) + 1) = ((k + 1 : Nat) : Int) := (wrap64 (by omega) (by omega)).trans (by omega)
      have w2 : wrapI .i64 (((k : Nat) : Int) - 1) = ((k : Nat) : Int) - 1 := wrap64 (by omega) (by omega)
      refine ⟨(((k : Int) - 1, ()), (T.set k (mixL (rowL N (l.drop (k + 1))) l[k].toNat (N + 1)), ())), ⟨k, _, by omega, by rw [List.length_set]; exact h2, fun j j1 j2 => ?_, rfl⟩, ?_, fun rec => ?_⟩
      · by_cases e : j = k
        · subst e
          rw [getD_set (by omega), if_pos rfl, List.drop_eq_getElem_cons hk]
          rfl
        · rw [getD_set (by omega), if_neg e]; exact h3 j (by omega) j2
      · show ((k : Int) - 1 + 1).toNat < ((k : Int) + 1).toNat
        omega
      · have hd : decide (0 ≤ (k : Int)) = true := decide_eq_true (by omega)
        have ti := tab_inner l hl N hN T k hk h2 l[k].toNat hla (by omega) _ hr (rowL_length ..) (fun T' => rec ((wrapI .i64 (((k : Nat) : Int) - 1), ()), (T', ()))) n (by omega)
        have i1 : inB ((k + 1 : Nat) : Int) T.length = true := inB_nat (by omega)
        have i2 : inB (k : Int) T.length = true := inB_nat (by omega)
        simp only [hd, w1, w2, i1, i2, inB_nat hk, cond_true]
        have cl := hC (rowL N (l.drop (k + 1))) (by rw [rowL_length]; omega)
        have g : T.getD (((k + 1 : Nat) : Int)).toNat [] = rowL N (l.drop (k + 1)) := by rw [Int.toNat_natCast]; exact hr
        rw [g, cl]
        simp only [Option.bind_some, i2, inB_nat hk, cond_true]
        simp only [w1, w2, inB_nat hk, cond_true] at ti
        exact ti
  · obtain rfl : j = l.length := by omega
    rw [hT0, List.drop_length]
  · rw [wrap64 (by omega) (by omega)]
  · rw [wrap64 (by omega) (by omega)]
    show (((l.length : Nat) : Int) - 1 + 1).toNat < n
    omega
def okL (l : List Int) : Bool := decide (l.length ≤ 30) && l.all (fun a => S_within a 0 1000)
def addF (a : Int) (_ : Nat) (s : Nat) : Nat := s + a.toNat
def sumL (l : List Int) : Nat := foldI addF l 0 0
theorem goL_guard {α σ A : Type} {P : α → Bool} {f : α → Nat → σ → σ} {e : Option A} {done : σ → Option A} : ∀ (l : List α) (i : Nat) (s : σ), goL (fun a i s => bif P a then .inl (f a i s) else .inr e) done l i s = bif l.all P then done (foldI f l i s) else e
  | [], _, _ => rfl
  | a :: r, i, s => by
    simp only [goL, List.all_cons, foldI]
    cases P a with
    | true => simpa using goL_guard r (i + 1) _
    | false => rfl
theorem add_acc : ∀ (l : List Int) (i s : Nat), foldI addF l i s = s + foldI addF l 0 0
  | [], _, s => rfl
  | a :: r, i, s => by
    simp only [foldI]
    rw [add_acc r (i + 1) (addF a i s), add_acc r (0 + 1) (addF a 0 0)]
    simp only [addF]
    omega
theorem sum_cons (a : Int) (r : List Int) : sumL (a :: r) = a.toNat + sumL r := by
  show foldI addF r (0 + 1) (addF a 0 0) = _
  rw [add_acc]
  simp only [addF, sumL]
  omega
theorem ok_of {l : List Int} (h : okL l = true) : l.length ≤ 30 ∧ ∀ a, a ∈ l → 0 ≤ a ∧ a ≤ 1000 := by
  simp only [okL, S_within, Bool.and_eq_true, decide_eq_true_eq, List.all_eq_true] at h
  exact h
theorem sum_in : ∀ {l : List Int} {a : Int}, a ∈ l → a.toNat ≤ sumL l
  | b :: r, a, h => by
    rw [sum_cons]
    rcases List.mem_cons.1 h with rfl | h
    · omega
    · have := sum_in h; omega
theorem sum_le {c : Nat} : ∀ {l : List Int}, (∀ a, a ∈ l → a.toNat ≤ c) → sumL l ≤ l.length * c
  | [], _ => Nat.zero_le _
  | a :: r, h => by
    rw [sum_cons, List.length_cons, Nat.succ_mul]
    have := h a List.mem_cons_self
    have := sum_le (l := r) fun b hb => h b (List.mem_cons_of_mem _ hb)
    omega
theorem sum_30000 {l : List Int} (h : okL l = true) : sumL l ≤ 30000 := by
  obtain ⟨h1, h2⟩ := ok_of h
  obtain ⟨c, hc⟩ : ∃ c : Nat, c = 1000 := ⟨_, rfl⟩
  have := sum_le (c := c) (l := l) fun a ha => by have := h2 a ha; omega
  have : l.length * c ≤ 30 * 1000 := Nat.mul_le_mul h1 (by omega)
  omega
theorem add_bound {l : List Int} (h : okL l = true) : ∀ (i : Nat) (hi : i < l.length) (s : Nat), s ≤ i * 1000 → addF l[i] i s ≤ (i + 1) * 1000 ∧ wrapI .i64 ((s : Int) + l[i]) = ((addF l[i] i s : Nat) : Int) := by
  intro i hi s hs
  obtain ⟨h1, h2⟩ := ok_of h
  have := h2 _ (List.getElem_mem hi)
  generalize l[i] = a at *
  have : i ≤ 30 := by omega
  unfold addF
  exact ⟨by omega, (wrap64 (by omega) (by omega)).trans (by omega)⟩
/-- the rows at the beginning -/
theorem tab_init (len N : Nat) : (((List.replicate (α := List Bool) (len + 1) []).set len (List.replicate (α := Bool) (N + 1) false)).set len ((((List.replicate (α := List Bool) (len + 1) []).set len (List.replicate (α := Bool) (N + 1) false)).getD len []).set 0 true)).getD len [] = rowL N [] := by
  rw [getD_set (by simp), if_pos rfl, getD_set (by simp), if_pos rfl]
  rfl
def bestM (N k a b : Nat) : Nat := bif decide ((bif decide (k + a < N - (k + a)) then N - (k + a) else k + a) < b) then (bif decide (k + a < N - (k + a)) then N - (k + a) else k + a) else b
def bestTo (N a : Nat) (row : List Bool) : Nat → Nat
  | 0 => N
  | k + 1 => bif row.getD k false && decide (k + a ≤ N) then bestM N k a (bestTo N a row k) else bestTo N a row k
def reachN (row : List Bool) (N best s : Nat) : Bool := (decide (s ≤ best) && row.getD (best - s) false) || (decide (s ≤ N - best) && row.getD (N - best - s) false)
def doneN (N best s : Nat) : Bool := decide ((bif decide (s < N - s) then N - s else s) = best)
def chooseL (N best : Nat) : List Int → Nat → Nat → List Int → List Int
  | [], _, _, out => out
  | a :: r, i, s, out => bif doneN N best s then out else bif reachN (rowL N r) N best (s + a.toNat) then chooseL N best r (i + 1) (s + a.toNat) (out ++ [(i : Int)]) else chooseL N best r (i + 1) s out
def balL (l : List Int) : List Int × Int × Int :=
  match l with
  | [] => ([], 0, 0)
  | a :: r => (chooseL (sumL l) (bestTo (sumL l) a.toNat (rowL (sumL l) r) (sumL l + 1)) r 1 a.toNat [0], (bestTo (sumL l) a.toNat (rowL (sumL l) r) (sumL l + 1) : Nat), 0)
def S_bal (l : List Int) : List Int × Int × Int := bif decide (30 < (l.length : Int)) then ([], 0, 2) else bif l.all (fun a => S_within a 0 1000) then balL l else ([], 0, 1)
theorem bestM_cases (N k a b : Nat) (h : k + a ≤ N) (hb : b ≤ N) (hh : N ≤ 2 * b) : (bestM N k a b = b ∨ bestM N k a b = k + a ∨ N - bestM N k a b = k + a) ∧ bestM N k a b ≤ N ∧ N ≤ 2 * bestM N k a b := by
  unfold bestM
  by_cases h1 : k + a < N - (k + a)
  · simp only [h1, decide_true, cond_true]
    by_cases h2 : N - (k + a) < b
    · simp only [h2, decide_true, cond_true]; exact ⟨.inr (.inr (by omega)), by omega, by omega⟩
    · simp only [h2, decide_false, cond_false]; exact ⟨.inl trivial, hb, hh⟩
  · simp only [h1, decide_false, cond_false]
    by_cases h2 : k + a < b
    · simp only [h2, decide_true, cond_true]; exact ⟨.inr (.inl trivial), h, by omega⟩
    · simp only [h2, decide_false, cond_false]; exact ⟨.inl trivial, hb, hh⟩
theorem bestTo_in (N a : Nat) (row : List Bool) (h : a ≤ N) (hf : row.getD (N - a) false = true) : ∀ k, bestTo N a row k ≤ N ∧ N ≤ 2 * bestTo N a row k ∧ reachN row N (bestTo N a row k) a = true
  | 0 => by
    refine ⟨Nat.le_refl _, ?_, ?_⟩
    · show N ≤ 2 * N; omega
    · show reachN row N N a = true
      unfold reachN
      rw [decide_eq_true h, hf]
      rfl
  | k + 1 => by
    obtain ⟨h1, h2, h3⟩ := bestTo_in N a row h hf k
    rw [bestTo]
    cases hc : row.getD k false && decide (k + a ≤ N) with
    | false => exact ⟨h1, h2, h3⟩
    | true =>
      simp only [Bool.and_eq_true, decide_eq_true_eq] at hc
      obtain ⟨hr, hk⟩ := hc
      obtain ⟨h4, h5, h6⟩ := bestM_cases N k a _ hk h1 h2
      rw [cond_true]
      refine ⟨h5, h6, ?_⟩
      rcases h4 with e | e | e
      · rw [e]; exact h3
      · unfold reachN
        rw [e, decide_eq_true (show a ≤ k + a by omega), show k + a - a = k by omega, hr]
        rfl
      · unfold reachN
        rw [e, decide_eq_true (show a ≤ k + a by omega), show k + a - a = k by omega, hr, Bool.and_self, Bool.or_true]
theorem bestTo_tail (N a : Nat) (row : List Bool) : ∀ j, bestTo N a row (N + 1 - a + j) = bestTo N a row (N + 1 - a)
  | 0 => rfl
  | j + 1 => by
    rw [← bestTo_tail N a row j, ← Nat.add_assoc, bestTo]
    have : decide (N + 1 - a + j + a ≤ N) = false := decide_eq_false (by omega)
    rw [this, Bool.and_false, cond_false]
theorem bestTo_end (N a : Nat) (row : List Bool) : bestTo N a row (N + 1 - a) = bestTo N a row (N + 1) := by
  by_cases h : a ≤ N + 1
  · have := bestTo_tail N a row a
    rw [← this]; congr 1; omega
  · have := bestTo_tail N a row (N + 1)
    rw [← this]; congr 1; omega
theorem row_full (N : Nat) : ∀ l, sumL l ≤ N → (rowL N l).getD (sumL l) false = true
  | [], _ => by simp [rowL, sumL, foldI, List.getD_eq_getElem?_getD]
  | a :: r, h => by
    rw [sum_cons] at h ⊢
    have ih := row_full N r (by omega)
    rw [rowL, mixL_at (by rw [rowL_length]; omega)]
    have : a.toNat + sumL r - a.toNat = sumL r := by omega
    rw [this, ih]
    have : decide (a.toNat ≤ a.toNat + sumL r) = true := decide_eq_true (by omega)
    have : decide (a.toNat + sumL r < N + 1) = true := decide_eq_true (by omega)
    simp [*]
theorem reach_le {row : List Bool} {N best s : Nat} (hb : best ≤ N) (h : reachN row N best s = true) : s ≤ N := by
  simp only [reachN, Bool.or_eq_true, Bool.and_eq_true, decide_eq_true_eq] at h
  omega
theorem reach_nil {N best s : Nat} (hb : best ≤ N) (hh : N ≤ 2 * best) (h : reachN (rowL N []) N best s = true) : doneN N best s = true := by
  have key : ∀ t, (rowL N []).getD t false = true → t = 0 := fun t ht => by
    rw [rowL, getD_set (by simp)] at ht
    by_cases e : t = 0
    · exact e
    · rw [if_neg e, List.getD_eq_getElem?_getD, List.getElem?_replicate] at ht
      by_cases e2 : t < N + 1 <;> simp [e2] at ht
  simp only [reachN, Bool.or_eq_true, Bool.and_eq_true, decide_eq_true_eq] at h
  unfold doneN
  refine decide_eq_true ?_
  by_cases h1 : s < N - s
  · rw [decide_eq_true h1, cond_true]
    rcases h with ⟨a, b⟩ | ⟨a, b⟩
    · have := key _ b; omega
    · have := key _ b; omega
  · rw [decide_eq_false h1, cond_false]
    rcases h with ⟨a, b⟩ | ⟨a, b⟩
    · have := key _ b; omega
    · have := key _ b; omega
theorem reach_skip {N best s : Nat} {a : Int} {r : List Int} (hb : best ≤ N) (h : reachN (rowL N (a :: r)) N best s = true) (hn : reachN (rowL N r) N best (s + a.toNat) = false) : reachN (rowL N r) N best s = true := by
  simp only [reachN, Bool.or_eq_true, Bool.and_eq_true, decide_eq_true_eq] at h ⊢
  simp only [reachN, Bool.or_eq_false_iff, Bool.and_eq_false_iff, decide_eq_false_iff_not] at hn
  obtain ⟨n1, n2⟩ := hn
  rcases h with ⟨h1, h2⟩ | ⟨h1, h2⟩
  · rw [rowL, mixL_at (by rw [rowL_length]; omega)] at h2
    simp only [Bool.or_eq_true, Bool.and_eq_true, decide_eq_true_eq] at h2
    rcases h2 with h2 | ⟨⟨h2, _⟩, h3⟩
    · exact .inl ⟨h1, h2⟩
    · rcases n1 with n1 | n1
      · omega
      · rw [show best - (s + a.toNat) = best - s - a.toNat by omega, h3] at n1; cases n1
  · rw [rowL, mixL_at (by rw [rowL_length]; omega)] at h2
    simp only [Bool.or_eq_true, Bool.and_eq_true, decide_eq_true_eq] at h2
    rcases h2 with h2 | ⟨⟨h2, _⟩, h3⟩
    · exact .inr ⟨h1, h2⟩
    · rcases n2 with n2 | n2
      · omega
      · rw [show N - best - (s + a.toNat) = N - best - s - a.toNat by omega, h3] at n2; cases n2
end Go.VM
