/- A typed evaluator of the model and its soundness, part 4: for every program whose types pass a check. -/
import Derived.Test.YtlibmodfpkhdpaaVm3
/- Chapter 8, plainly: points, ways, the greedy order. -/
namespace Go.VM
abbrev Pt := Int × Int × Unit
def pt0 : Pt := (0, (0, ()))
def S_within (n lo hi : Int) : Bool := decide (lo ≤ n) && decide (n ≤ hi)
abbrev Hole := (Int × (Int × Unit)) × (Int × (Int × (Bool × Unit)))
abbrev Pr := Int × (Int × (Int × Unit))
def hole0 : Hole := ((0, (0, ())), (0, (0, (false, ()))))
/-- how far it is through points, by a distance of one's own -/
def wayF (d : Pt → Pt → Int) (a : Pt) (_ : Nat) (s : Int × Pt) : Int × Pt := (wrapI .i64 (s.1 + d s.2 a), a)
def S_way (d : Pt → Pt → Int) (l : List Pt) (p : Pt) : Int := (foldI (wayF d) l 0 (0, p)).1
/-- the nearest point that is left -/
def pickF (d : Pt → Pt → Int) (l : List Pt) (used : List Bool) (p : Pt) (a : Pt) (i : Nat) (b : Int) : Int :=
  bif !(used.getD i false) then (bif decide (b < 0) then (i : Int) else bif decide (d p a < d p (l.getD b.toNat pt0)) then (i : Int) else b) else b
def S_pick (d : Pt → Pt → Int) (l : List Pt) (used : List Bool) (p : Pt) : Int := foldI (pickF d l used p) l 0 (-1)
def greedyB {A : Type} (d : Pt → Pt → Int) (l : List Pt) (_ : Pt) (_ : Nat) (s : List Int × Pt × List Bool) : (List Int × Pt × List Bool) ⊕ Option A :=
  bif inB (S_pick d l s.2.2 s.2.1) l.length then .inl (s.1 ++ [S_pick d l s.2.2 s.2.1], l.getD (S_pick d l s.2.2 s.2.1).toNat pt0, s.2.2.set (S_pick d l s.2.2 s.2.1).toNat true) else .inr none
def S_greedy (d : Pt → Pt → Int) (l : List Pt) (p : Pt) : Option (List Int) :=
  goL (greedyB d l) (fun s => some s.1) l 0 ([], p, List.replicate l.length false)
theorem greedy_map {A : Type} (d : Pt → Pt → Int) (l : List Pt) (g : List Int → A) : ∀ (r : List Pt) (i : Nat) (s : List Int × Pt × List Bool), goL (greedyB d l) (fun s => some (g s.1)) r i s = (goL (greedyB d l) (fun s => some s.1) r i s).map g
  | [], _, _ => rfl
  | a :: r, i, s => by
    simp only [goL, greedyB]
    cases inB (S_pick d l s.2.2 s.2.1) l.length with
    | true => exact greedy_map d l g r (i + 1) _
    | false => rfl
theorem pick_inv (d : Pt → Pt → Int) (l : List Pt) (used : List Bool) (p : Pt) : -1 ≤ S_pick d l used p ∧ S_pick d l used p < (l.length : Int) := by
  have := foldI_inv (f := pickF d l used p) (fun i b => -1 ≤ b ∧ b < (i : Int)) l 0 (-1) (by simp) (fun j a b hj hI => by
    simp only [pickF]
    cases used.getD (0 + j) false with
    | true => simp only [Bool.not_true, cond_false]; omega
    | false =>
      simp only [Bool.not_false, cond_true]
      cases decide (b < 0) with
      | true => simp only [cond_true]; omega
      | false =>
        simp only [cond_false]
        cases decide (d p a < d p (l.getD b.toNat pt0)) with
        | true => simp only [cond_true]; omega
        | false => simp only [cond_false]; omega)
  simpa [S_pick] using this
def inR (p : Pt) : Prop := -1000000 ≤ p.1 ∧ p.1 ≤ 1000000 ∧ -1000000 ≤ p.2.1 ∧ p.2.1 ≤ 1000000
end Go.VM
namespace Go.VM
theorem eqPt (x a : Pt) : Ty.eqv (.pair (.int .i64) (.pair (.int .i64) .unit)) x a = decide (x = a) := by
  obtain ⟨x1, x2, ⟨⟩⟩ := x
  obtain ⟨a1, a2, ⟨⟩⟩ := a
  simp only [Ty.eqv]
  rw [Bool.eq_iff_iff]
  simp
/-- pairs that are near, by a gap of one's own -/
def nearF (g : Hole → Hole → Int) (below : Int) (i : Nat) (a : Hole) (b : Hole) (k : Nat) (o : List Pr) : List Pr :=
  bif decide (g a b < below) then (bif !(decide (a.1 = b.1)) then o ++ [((i : Int), ((k : Int), (g a b, ())))] else o) else o
def S_near (g : Hole → Hole → Int) (l : List Hole) (below : Int) : List Pr := foldI (fun a i o => foldI (nearF g below i a) (l.drop (i + 1)) (i + 1) o) l 0 []
theorem near_len {g : Hole → Hole → Int} {below : Int} {i : Nat} {a b : Hole} {k : Nat} {o : List Pr} : (nearF g below i a b k o).length ≤ o.length + 1 := by
  unfold nearF
  cases decide (g a b < below) <;> cases decide (a.1 = b.1) <;> simp
theorem near_in1 {g : Hole → Hole → Int} {below : Int} {i : Nat} {a : Hole} {p : Pr} : ∀ (r : List Hole) (k0 : Nat) (o : List Pr), p ∈ foldI (nearF g below i a) r k0 o ↔ p ∈ o ∨ ∃ k b, r[k]? = some b ∧ g a b < below ∧ a.1 ≠ b.1 ∧ p = ((i : Int), (((k0 + k : Nat) : Int), (g a b, ())))
  | [], k0, o => by simp [foldI]
  | c :: r, k0, o => by
    simp only [foldI]
    rw [near_in1 r (k0 + 1) _]
    constructor
    · rintro (h | ⟨k, b, h1, h2, h3, h4⟩)
      · unfold nearF at h
        by_cases c1 : g a c < below
        · by_cases c2 : a.1 = c.1
          · simp [c1, c2] at h; exact .inl h
          · simp [c1, c2] at h
            rcases h with h | h
            · exact .inl h
            · exact .inr ⟨0, c, rfl, c1, c2, by simpa using h⟩
        · simp [c1] at h; exact .inl h
      · exact .inr ⟨k + 1, b, by simpa using h1, h2, h3, by rw [h4]; congr 3; omega⟩
    · rintro (h | ⟨k, b, h1, h2, h3, h4⟩)
      · left
        unfold nearF
        cases decide (g a c < below) <;> cases decide (a.1 = c.1) <;> simp [h]
      · cases k with
        | zero =>
          simp at h1; subst h1
          left
          unfold nearF
          simp [h2, h3, h4]
        | succ k => exact .inr ⟨k, b, by simpa using h1, h2, h3, by rw [h4]; congr 3; omega⟩
theorem near_in {g : Hole → Hole → Int} {l : List Hole} {below : Int} {p : Pr} : p ∈ S_near g l below ↔ ∃ (i k : Nat) (a b : Hole), l[i]? = some a ∧ l[k]? = some b ∧ i < k ∧ g a b < below ∧ a.1 ≠ b.1 ∧ p = ((i : Int), ((k : Int), (g a b, ()))) := by
  have key : ∀ (r : List Hole) (i0 : Nat) (o : List Pr), p ∈ foldI (fun a i o => foldI (nearF g below i a) (l.drop (i + 1)) (i + 1) o) r i0 o ↔ p ∈ o ∨ ∃ (i k : Nat) (a b : Hole), r[i]? = some a ∧ (l.drop (i0 + i + 1))[k]? = some b ∧ g a b < below ∧ a.1 ≠ b.1 ∧ p = (((i0 + i : Nat) : Int), (((i0 + i + 1 + k : Nat) : Int), (g a b, ()))) := by
    intro r
    induction r with
    | nil => intro i0 o; simp [foldI]
    | cons c r ih =>
      intro i0 o
      simp only [foldI]
      rw [ih (i0 + 1), near_in1]
      constructor
      · rintro ((h | ⟨k, b, h1, h2, h3, h4⟩) | ⟨i, k, a, b, h1, h2, h3, h4, h5⟩)
        · exact .inl h
        · exact .inr ⟨0, k, c, b, rfl, h1, h2, h3, h4⟩
        · exact .inr ⟨i + 1, k, a, b, by simpa using h1, by rw [← h2]; congr 2; omega, h3, h4, by rw [h5]; simp only [Prod.mk.injEq, and_true]; omega⟩
      · rintro (h | ⟨i, k, a, b, h1, h2, h3, h4, h5⟩)
        · exact .inl (.inl h)
        · cases i with
          | zero => simp at h1; subst h1; exact .inl (.inr ⟨k, b, h2, h3, h4, h5⟩)
          | succ i => exact .inr ⟨i, k, a, b, by simpa using h1, by rw [← h2]; congr 2; omega, h3, h4, by rw [h5]; simp only [Prod.mk.injEq, and_true]; omega⟩
  unfold S_near
  rw [key]
  constructor
  · rintro (h | ⟨i, k, a, b, h1, h2, h3, h4, h5⟩)
    · cases h
    · rw [List.getElem?_drop] at h2
      exact ⟨i, 0 + i + 1 + k, a, b, h1, h2, by omega, h3, h4, by rw [h5]; simp only [Prod.mk.injEq, and_true]; omega⟩
  · rintro ⟨i, k, a, b, h1, h2, h3, h4, h5, h6⟩
    exact .inr ⟨i, k - (i + 1), a, b, h1, by rw [List.getElem?_drop]; rw [← h2]; congr 1; omega, h4, h5, by rw [h6]; simp only [Prod.mk.injEq, and_true]; omega⟩
end Go.VM
