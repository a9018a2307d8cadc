/- A typed evaluator of the model and its soundness, part 3: for every program whose types pass a check. -/
import Derived.Lib.SliceRun
import Derived.WalkSpells
import Derived.Orders
import Derived.Test.YtjemgnhklipcjaaDoorVmMountPicksTakeWhatThereIs2
/- Soundness, draws, part 3: operations that read at most. -/
namespace Go.VM
variable {P : Program} {ty : Types}
variable {cx : Nat → Inst} {call : (j : Nat) → (cx j).args.den → Option (cx j).res}

/-- the states tell the same of what is looked at -/
structure Like (L : List Operand) (s s' : St) : Prop where
  n : s'.n = s.n
  ev : ∀ x, x ∈ L → s'.ev x = s.ev x
  home : ∀ x a h, x ∈ L → s.ev x = .at a → h ∈ atRef a → s'.home? h = s.home? h
theorem Like.sub {L M : List Operand} {s s' : St} (h : Like M s s') (k : ∀ o, o ∈ L → o ∈ M) : Like L s s' := ⟨h.n, fun x hx => h.ev x (k x hx), fun x a g hx => h.home x a g (k x hx)⟩
theorem indexAddrQ_pure {s r : St} {d : Nat} {T : TypeId} {x i : Operand} (hq : (indexAddrQ ty s d T x i).Is r) : ∃ v, r = s.set d v ∧ ∀ s', Like [x, i] s s' → (indexAddrQ ty s' d T x i).Is (s'.set d v) := by
  simp only [indexAddrQ, Q.is_bind', atQ_is] at hq
  obtain ⟨n, hn, v, hv, hq⟩ := hq
  have go : ∀ s', Like [x, i] s s' → (s'.intQ i).Is n ∧ s'.ev x = .at v := fun s' l => ⟨by rw [intQ_c (l.ev i (by simp))]; exact hn, by rw [l.ev x (by simp)]; exact hv⟩
  have hm : ∀ s' h, Like [x, i] s s' → h ∈ atRef v → s'.home? h = s.home? h := fun s' h l hh => l.home x v h (by simp) hv hh
  cases v <;> simp only [Q.is_fail] at hq <;> simp only [Q.is_bind', Q.is_pure, Q.is_of, Q.is_req, isT_is] at hq
  case pv v =>
    obtain ⟨l, h1, u, h2, u2, h3, rfl⟩ := hq
    refine ⟨_, rfl, fun s' k => ?_⟩
    simp only [indexAddrQ, Q.is_bind', atQ_is]
    refine ⟨n, (go s' k).1, _, (go s' k).2, ?_⟩
    simp only [Q.is_bind', Q.is_pure, Q.is_of, Q.is_req, isT_is]
    exact ⟨l, h1, u, h2, u2, h3, rfl⟩
  case cref v =>
    obtain ⟨l, h1, u, h2, u2, h3, rfl⟩ := hq
    refine ⟨_, rfl, fun s' k => ?_⟩
    simp only [indexAddrQ, Q.is_bind', atQ_is]
    refine ⟨n, (go s' k).1, _, (go s' k).2, ?_⟩
    simp only [Q.is_bind', Q.is_pure, Q.is_of, Q.is_req, isT_is]
    exact ⟨l, h1, u, h2, u2, h3, rfl⟩
  case rf h p =>
    obtain ⟨l, h1, u, h2, u2, h3, rfl⟩ := hq
    refine ⟨_, rfl, fun s' k => ?_⟩
    simp only [indexAddrQ, Q.is_bind', atQ_is]
    refine ⟨n, (go s' k).1, _, (go s' k).2, ?_⟩
    simp only [Q.is_bind', Q.is_pure, Q.is_of, Q.is_req, isT_is]
    exact ⟨l, by rw [hdrQ_c (hm s' h k (by simp [atRef]))]; exact h1, u, h2, u2, h3, trivial⟩
  case rg h p lo hi =>
    obtain ⟨l, h1, u, h2, u2, h3, rfl⟩ := hq
    refine ⟨_, rfl, fun s' k => ?_⟩
    simp only [indexAddrQ, Q.is_bind', atQ_is]
    refine ⟨n, (go s' k).1, _, (go s' k).2, ?_⟩
    simp only [Q.is_bind', Q.is_pure, Q.is_of, Q.is_req, isT_is]
    exact ⟨l, by rw [hdrQ_c (hm s' h k (by simp [atRef]))]; exact h1, u, h2, u2, h3, trivial⟩
  case ptr h p =>
    obtain ⟨v, h0, l, h1, u, h2, u2, h3, rfl⟩ := hq
    refine ⟨_, rfl, fun s' k => ?_⟩
    simp only [indexAddrQ, Q.is_bind', atQ_is]
    refine ⟨n, (go s' k).1, _, (go s' k).2, ?_⟩
    simp only [Q.is_bind', Q.is_pure, Q.is_of, Q.is_req, isT_is]
    exact ⟨v, by rw [seeQ_c (hm s' h k (by simp [atRef]))]; exact h0, l, h1, u, h2, u2, h3, trivial⟩
theorem boundsQ_c {s s' : St} {n : Nat} {lo hi : Option Operand} (c : ∀ x, x ∈ lo.toList ++ hi.toList → s'.ev x = s.ev x) : boundsQ s' n lo hi = boundsQ s n lo hi := by
  have h1 : hiQ s' n hi = hiQ s n hi := by
    cases hi with
    | none => rfl
    | some o => simp only [hiQ, intQ_c (c o (by simp))]
  have h2 : ∀ h, loQ s' h lo = loQ s h lo := fun h => by
    cases lo with
    | none => rfl
    | some o => simp only [loQ, intQ_c (c o (by simp))]
  simp only [boundsQ, h1, h2]
theorem sliceQ_pure {s r : St} {d : Nat} {T : TypeId} {x : Operand} {lo hi : Option Operand} (hq : (sliceQ ty s d T x lo hi).Is r) : ∃ v, r = s.set d v ∧ ∀ s', Like (x :: (lo.toList ++ hi.toList)) s s' → (sliceQ ty s' d T x lo hi).Is (s'.set d v) := by
  simp only [sliceQ, Q.is_bind', atQ_is] at hq
  obtain ⟨v, hv, hq⟩ := hq
  have go : ∀ s', Like (x :: (lo.toList ++ hi.toList)) s s' → s'.ev x = .at v := fun s' l => by rw [l.ev x (by simp)]; exact hv
  have bd : ∀ s' n, Like (x :: (lo.toList ++ hi.toList)) s s' → boundsQ s' n lo hi = boundsQ s n lo hi := fun s' n l => boundsQ_c fun y hy => l.ev y (List.mem_cons_of_mem _ hy)
  have hm : ∀ s' h, Like (x :: (lo.toList ++ hi.toList)) s s' → h ∈ atRef v → s'.home? h = s.home? h := fun s' h l hh => l.home x v h (by simp) hv hh
  cases v <;> simp only [Q.is_fail] at hq
  case pv v =>
    cases hs : asStr v with
    | some b =>
      rw [hs] at hq
      simp only [Q.is_bind', Q.is_pure, isT_is] at hq
      obtain ⟨u, h1, q, h2, rfl⟩ := hq
      refine ⟨_, rfl, fun s' k => ?_⟩
      simp only [sliceQ, Q.is_bind', atQ_is]
      refine ⟨_, go s' k, ?_⟩
      simp only [hs, Q.is_bind', Q.is_pure, isT_is]
      exact ⟨u, h1, q, by rw [bd s' _ k]; exact h2, rfl⟩
    | none =>
      rw [hs] at hq
      simp only [Q.is_bind', Q.is_pure, Q.is_of, isT_is] at hq
      obtain ⟨l, h0, u, h1, q, h2, rfl⟩ := hq
      refine ⟨_, rfl, fun s' k => ?_⟩
      simp only [sliceQ, Q.is_bind', atQ_is]
      refine ⟨_, go s' k, ?_⟩
      simp only [hs, Q.is_bind', Q.is_pure, Q.is_of, isT_is]
      exact ⟨l, h0, u, h1, q, by rw [bd s' _ k]; exact h2, rfl⟩
  case rf g p =>
    simp only [Q.is_bind', Q.is_pure, isT_is] at hq
    obtain ⟨l, h0, u, h1, q, h2, rfl⟩ := hq
    refine ⟨_, rfl, fun s' k => ?_⟩
    simp only [sliceQ, Q.is_bind', atQ_is]
    refine ⟨_, go s' k, ?_⟩
    simp only [Q.is_bind', Q.is_pure, isT_is]
    exact ⟨l, by rw [elemsQ_c (hm s' g k (by simp [atRef]))]; exact h0, u, h1, q, by rw [bd s' _ k]; exact h2, rfl⟩
  case rg g p a b =>
    simp only [Q.is_bind', Q.is_pure, isT_is] at hq
    obtain ⟨l, h0, u, h1, q, h2, rfl⟩ := hq
    refine ⟨_, rfl, fun s' k => ?_⟩
    simp only [sliceQ, Q.is_bind', atQ_is]
    refine ⟨_, go s' k, ?_⟩
    simp only [Q.is_bind', Q.is_pure, isT_is]
    exact ⟨l, by rw [elemsQ_c (hm s' g k (by simp [atRef]))]; exact h0, u, h1, q, by rw [bd s' _ k]; exact h2, rfl⟩
theorem loadQ_pure {s r : St} {d : Nat} {T : TypeId} {x : Operand} {u : Unit} (hf : (noFrz s (.load T x)).Is u) (hq : (loadQ ty s d T x).Is r) : ∃ v, r = s.set d v ∧ ∀ s', Like [x] s s' → (loadQ ty s' d T x).Is (s'.set d v) := by
  simp only [loadQ, Q.is_bind', atQ_is] at hq
  obtain ⟨v, hv, hq⟩ := hq
  simp only [noFrz, hv] at hf
  cases v <;> simp only [Q.is_fail] at hq
  case cref v =>
    simp only [Q.is_bind', Q.is_pure] at hq
    obtain ⟨_, h1, rfl⟩ := hq
    refine ⟨_, rfl, fun s' k => ?_⟩
    simp only [loadQ, Q.is_bind', atQ_is]
    exact ⟨_, by rw [k.ev x (by simp)]; exact hv, by simp only [Q.is_bind', Q.is_pure]; exact ⟨(), h1, trivial⟩⟩
  case ptr h p =>
    simp only [Q.is_bind'] at hq hf
    obtain ⟨q, h1, _, h2, hq⟩ := hq
    obtain ⟨q', h1', hf⟩ := hf
    have : q' = q := by rw [Q.Is, h1] at h1'; cases h1'; rfl
    subst this
    obtain ⟨sh, tv⟩ := q'
    have hh : ∀ s', Like [x] s s' → (s'.look h p).Is (sh, tv) := fun s' k => by rw [look_c (k.home x _ h (by simp) hv (by simp [atRef]))]; exact h1
    cases sh <;> simp only [Q.is_fail, Q.is_ret] at hq hf <;> first | (exact absurd hq id) | skip
    all_goals
      subst hq
      refine ⟨_, rfl, fun s' k => ?_⟩
      simp only [loadQ, Q.is_bind', atQ_is]
      refine ⟨_, by rw [k.ev x (by simp)]; exact hv, ?_⟩
      simp only [Q.is_bind']
      exact ⟨_, hh s' k, (), h2, by simp only [Q.is_ret]⟩
theorem capsQ_c {s s' : St} : ∀ {l : List Operand}, (∀ x, x ∈ l → s'.ev x = s.ev x) → capsQ s' l = capsQ s l
  | [], _ => rfl
  | o :: r, c => by simp only [capsQ, atQ_c (c o (by simp)), capsQ_c (l := r) fun x hx => c x (List.mem_cons_of_mem _ hx)]
theorem tvsQ_c {s s' : St} : ∀ {l : List Operand}, (∀ x, x ∈ l → s'.ev x = s.ev x) → s'.tvsQ l = s.tvsQ l
  | [], _ => rfl
  | o :: r, c => by simp only [St.tvsQ, tvQ_c (c o (by simp)), tvsQ_c (l := r) fun x hx => c x (List.mem_cons_of_mem _ hx)]
theorem lenQ_pure {s : St} {T : TypeId} {x : Operand} {n : Int} (hq : (lenQ ty s T x).Is n) : ∀ s', Like [x] s s' → (lenQ ty s' T x).Is n := by
  intro s' k
  simp only [lenQ, Q.is_bind', atQ_is] at hq ⊢
  obtain ⟨v, hv, hq⟩ := hq
  refine ⟨v, by rw [k.ev x (by simp)]; exact hv, ?_⟩
  have hm : ∀ h, h ∈ atRef v → s'.home? h = s.home? h := fun h hh => k.home x v h (by simp) hv hh
  cases v <;> simp only [Q.is_fail] at hq ⊢
  · exact hq
  · exact hq
  · simp only [Q.is_bind', Q.is_pure] at hq ⊢
    obtain ⟨l, h0, h1⟩ := hq
    exact ⟨l, by rw [seeQ_c (hm _ (by simp [atRef]))]; exact h0, h1⟩
  · simp only [Q.is_bind', Q.is_pure] at hq ⊢
    obtain ⟨l, h0, h1⟩ := hq
    exact ⟨l, by rw [elemsQ_c (hm _ (by simp [atRef]))]; exact h0, h1⟩
theorem lookupQ_pure {s r : St} {d : Nat} {T : TypeId} {m x : Operand} {ok : Bool} (hq : (lookupQ ty s d T m x ok).Is r) : ∃ v, r = s.set d v ∧ ∀ s', Like [m, x] s s' → (lookupQ ty s' d T m x ok).Is (s'.set d v) := by
  simp only [lookupQ, Q.is_bind', Q.is_must, Q.is_of] at hq
  obtain ⟨l, h1, _, h2, _, h3, v, h4, y, h5, hq⟩ := hq
  have go : ∀ s', Like [m, x] s s' → (s'.mapQ m).Is l ∧ (s'.tvQ x).Is v := fun s' k => ⟨by rw [mapQ_c (k.ev m (by simp)) fun a h ha hh => k.home m a h (by simp) ha hh]; exact h1, by rw [tvQ_c (k.ev x (by simp))]; exact h4⟩
  cases ok <;> simp only [cond_true, cond_false, Q.is_pure] at hq <;> subst hq
  all_goals
    refine ⟨_, rfl, fun s' k => ?_⟩
    simp only [lookupQ, Q.is_bind', Q.is_must, Q.is_of]
    exact ⟨l, (go s' k).1, (), h2, (), h3, v, (go s' k).2, y, h5, by simp only [cond_true, cond_false, Q.is_pure]⟩

theorem opQ_pure {calls : List (Nat × Nat)} {i : Nat} {o : Oper} {s r : St} {u : Unit} (hp : pureOp o.op = true) (hf : (noFrz s o.op).Is u) (hq : (opQ ty cx call calls i o s).Is r) :
    ∃ d v, o.dst = some d ∧ d < s.n ∧ r = s.set d v ∧ ∀ s', Like (opArgs o) s s' → (opQ ty cx call calls i o s').Is (s'.set d v) := by
  obtain ⟨dst, op, T0, pos, aft, grd⟩ := o
  have one : ∀ {op : Op}, (∀ s, opQ ty cx call calls i (⟨dst, op, T0, pos, aft, grd⟩ : Oper) s = (do let d ← dstQ s (⟨dst, op, T0, pos, aft, grd⟩ : Oper); op1Q ty s d T0 op)) →
      (∀ d, (op1Q ty s d T0 op).Is r → ∃ v, r = s.set d v ∧ ∀ s', Like (opArgs (⟨dst, op, T0, pos, aft, grd⟩ : Oper)) s s' → (op1Q ty s' d T0 op).Is (s'.set d v)) →
      (opQ ty cx call calls i (⟨dst, op, T0, pos, aft, grd⟩ : Oper) s).Is r → ∃ d v, dst = some d ∧ d < s.n ∧ r = s.set d v ∧ ∀ s', Like (opArgs (⟨dst, op, T0, pos, aft, grd⟩ : Oper)) s s' → (opQ ty cx call calls i (⟨dst, op, T0, pos, aft, grd⟩ : Oper) s').Is (s'.set d v) := by
    intro op e h hq
    rw [e, Q.is_bind'] at hq
    obtain ⟨d, hd, hq⟩ := hq
    obtain ⟨h1, h2⟩ := dstQ_is hd
    obtain ⟨v, h3, h4⟩ := h d hq
    refine ⟨d, v, h1, h2, h3, fun s' k => ?_⟩
    rw [e, Q.is_bind']
    refine ⟨d, ?_, h4 s' k⟩
    simp only at h1
    subst h1
    simp only [dstQ, Q.is_bind', Q.is_must, Q.is_pure]; exact ⟨(), by rw [k.n]; simpa [Nat.blt_eq] using h2, trivial⟩
  cases op <;> first | (simp only [pureOp, Bool.false_eq_true] at hp; done) | skip
  case move x =>
    refine one (fun s => rfl) (fun d h => ?_) hq
    simp only [op1Q, Q.is_ret] at h
    subst h
    exact ⟨_, rfl, fun s' k => by simp only [op1Q, Q.is_ret]; rw [k.ev x (by simp [opArgs])]⟩
  case pick c x y =>
    refine one (fun s => rfl) (fun d h => ?_) hq
    simp only [op1Q, Q.is_bind', Q.is_bi, Q.is_ret] at h
    obtain ⟨b, hb, h⟩ := h
    rcases h with ⟨rfl, rfl⟩ | ⟨rfl, rfl⟩
    · exact ⟨_, rfl, fun s' k => by simp only [op1Q, Q.is_bind', Q.is_bi, Q.is_ret]; exact ⟨_, by rw [boolQ_c (k.ev c (by simp [opArgs]))]; exact hb, .inl ⟨rfl, by rw [k.ev x (by simp [opArgs])]⟩⟩⟩
    · exact ⟨_, rfl, fun s' k => by simp only [op1Q, Q.is_bind', Q.is_bi, Q.is_ret]; exact ⟨_, by rw [boolQ_c (k.ev c (by simp [opArgs]))]; exact hb, .inr ⟨rfl, by rw [k.ev y (by simp [opArgs])]⟩⟩⟩
  case load T x =>
    exact one (fun s => rfl) (fun d h => loadQ_pure hf h) hq
  case nilCheck x =>
    refine one (fun s => rfl) (fun d h => ?_) hq
    simp only [op1Q] at h
    split at h <;> simp only [Q.is_bind', Q.is_pure, Q.is_ret, Q.is_fail, homeQ_is] at h
    · rename_i g p he
      obtain ⟨H, hH, rfl⟩ := h
      refine ⟨_, rfl, fun s' k => ?_⟩
      simp only [op1Q, k.ev x (by simp [opArgs]), he, Q.is_bind', Q.is_pure, homeQ_is]
      exact ⟨H, by rw [k.home x _ g (by simp [opArgs]) he (by simp [atRef])]; exact hH, trivial⟩
    · rename_i v he
      subst h
      exact ⟨_, rfl, fun s' k => by simp only [op1Q, k.ev x (by simp [opArgs]), he, Q.is_ret]⟩
    · rename_i f l he
      subst h
      exact ⟨_, rfl, fun s' k => by simp only [op1Q, k.ev x (by simp [opArgs]), he, Q.is_ret]⟩
  case binOp b T x y U =>
    refine one (fun s => rfl) (fun d h => ?_) hq
    simp only [op1Q, Q.is_bind', Q.is_pure] at h
    obtain ⟨v1, h1, v2, h2, v3, h3, rfl⟩ := h
    exact ⟨_, rfl, fun s' k => by simp only [op1Q, Q.is_bind', Q.is_pure]; exact ⟨v1, by rw [tvQ_c (k.ev x (by simp [opArgs]))]; exact h1, v2, by rw [tvQ_c (k.ev y (by simp [opArgs]))]; exact h2, v3, h3, rfl⟩⟩
  case unOp b T x =>
    refine one (fun s => rfl) (fun d h => ?_) hq
    simp only [op1Q, Q.is_bind', Q.is_pure] at h
    obtain ⟨v1, h1, v3, h3, rfl⟩ := h
    exact ⟨_, rfl, fun s' k => by simp only [op1Q, Q.is_bind', Q.is_pure]; exact ⟨v1, by rw [tvQ_c (k.ev x (by simp [opArgs]))]; exact h1, v3, h3, rfl⟩⟩
  case convert U T x =>
    refine one (fun s => rfl) (fun d h => ?_) hq
    simp only [op1Q, Q.is_bind', Q.is_pure, Q.is_of] at h
    obtain ⟨t, ht, t2, ht2, v1, h1, v3, h3, rfl⟩ := h
    exact ⟨_, rfl, fun s' k => by simp only [op1Q, Q.is_bind', Q.is_pure, Q.is_of]; exact ⟨t, ht, t2, ht2, v1, by rw [tvQ_c (k.ev x (by simp [opArgs]))]; exact h1, v3, h3, rfl⟩⟩
  case makeFunc f a c =>
    refine one (fun s => rfl) (fun d h => ?_) hq
    simp only [op1Q] at h
    split at h <;> simp only [Q.is_bind', Q.is_pure, Q.is_fail] at h
    rename_i g e1
    obtain ⟨l, h1, rfl⟩ := h
    exact ⟨_, rfl, fun s' k => by simp only [op1Q, e1, Q.is_bind', Q.is_pure]; exact ⟨l, by rw [capsQ_c fun x hx => k.ev x (by simpa [opArgs] using hx)]; exact h1, rfl⟩⟩
  case slice T x lo hi mx =>
    cases mx with
    | some _ => simp [pureOp] at hp
    | none => exact one (fun s => rfl) (fun d h => sliceQ_pure h) hq
  case fieldAddr T x f =>
    refine one (fun s => rfl) (fun d h => ?_) hq
    simp only [op1Q, Q.is_bind', atQ_is] at h
    obtain ⟨v, hv, h⟩ := h
    cases v <;> simp only [Q.is_fail] at h <;> simp only [Q.is_bind', Q.is_pure] at h
    case ptr g p =>
      obtain ⟨q, h1, _, h2, q2, h3, _, h4, rfl⟩ := h
      refine ⟨_, rfl, fun s' k => ?_⟩
      have hm := k.home x _ g (by simp [opArgs]) hv (by simp [atRef])
      simp only [op1Q, Q.is_bind', atQ_is]
      refine ⟨_, by rw [k.ev x (by simp [opArgs])]; exact hv, ?_⟩
      simp only [Q.is_bind', Q.is_pure]
      exact ⟨q, by rw [look_c hm]; exact h1, (), h2, q2, by rw [look_c hm]; exact h3, (), h4, trivial⟩
    case cref w =>
      obtain ⟨_, h2, w, h3, _, h4, rfl⟩ := h
      refine ⟨_, rfl, fun s' k => ?_⟩
      simp only [op1Q, Q.is_bind', atQ_is]
      refine ⟨_, by rw [k.ev x (by simp [opArgs])]; exact hv, ?_⟩
      simp only [Q.is_bind', Q.is_pure]
      exact ⟨(), h2, w, h3, (), h4, rfl⟩
  case field T x f =>
    refine one (fun s => rfl) (fun d h => ?_) hq
    simp only [op1Q, Q.is_bind', Q.is_pure] at h
    obtain ⟨v1, h1, _, h2, w, h3, rfl⟩ := h
    exact ⟨_, rfl, fun s' k => by simp only [op1Q, Q.is_bind', Q.is_pure]; exact ⟨v1, by rw [tvQ_c (k.ev x (by simp [opArgs]))]; exact h1, (), h2, w, h3, rfl⟩⟩
  case indexAddr T x j =>
    exact one (fun s => rfl) (fun d h => indexAddrQ_pure h) hq
  case lookup T x j ok =>
    exact one (fun s => rfl) (fun d h => lookupQ_pure h) hq
  case index T x j =>
    refine one (fun s => rfl) (fun d h => ?_) hq
    simp only [op1Q, Q.is_bind'] at h
    obtain ⟨n, hn, v, hv, _, h2, h⟩ := h
    cases hs : asStr v with
    | some b =>
      rw [hs] at h
      simp only [Q.is_bind', Q.is_pure] at h
      obtain ⟨_, h3, rfl⟩ := h
      exact ⟨_, rfl, fun s' k => by simp only [op1Q, Q.is_bind']; exact ⟨n, by rw [intQ_c (k.ev j (by simp [opArgs]))]; exact hn, v, by rw [tvQ_c (k.ev x (by simp [opArgs]))]; exact hv, (), h2, by rw [hs]; simp only [Q.is_bind', Q.is_pure]; exact ⟨(), h3, trivial⟩⟩⟩
    | none =>
      rw [hs] at h
      simp only [Q.is_bind', Q.is_pure] at h
      obtain ⟨l, h3, _, h4, rfl⟩ := h
      exact ⟨_, rfl, fun s' k => by simp only [op1Q, Q.is_bind']; exact ⟨n, by rw [intQ_c (k.ev j (by simp [opArgs]))]; exact hn, v, by rw [tvQ_c (k.ev x (by simp [opArgs]))]; exact hv, (), h2, by rw [hs]; simp only [Q.is_bind', Q.is_pure]; exact ⟨l, h3, (), h4, rfl⟩⟩⟩
  case extract x j =>
    refine one (fun s => rfl) (fun d h => ?_) hq
    simp only [op1Q] at h
    split at h <;> simp only [Q.is_bind', Q.is_pure, Q.is_fail, Q.is_of] at h
    rename_i l he
    obtain ⟨a, ha, rfl⟩ := h
    exact ⟨_, rfl, fun s' k => by simp only [op1Q, k.ev x (by simp [opArgs]), he, Q.is_bind', Q.is_pure, Q.is_of]; exact ⟨a, ha, rfl⟩⟩
  case call c =>
    obtain ⟨callee, cargs, ctypes⟩ := c
    have two : ∀ b, (∀ d, (builtinQ ty s d b ⟨.builtin b, cargs, ctypes⟩).Is r → ∃ v, r = s.set d v ∧ ∀ s', Like (opArgs (⟨dst, .call ⟨.builtin b, cargs, ctypes⟩, T0, pos, aft, grd⟩ : Oper)) s s' → (builtinQ ty s' d b ⟨.builtin b, cargs, ctypes⟩).Is (s'.set d v)) →
        (opQ ty cx call calls i (⟨dst, .call ⟨.builtin b, cargs, ctypes⟩, T0, pos, aft, grd⟩ : Oper) s).Is r → ∃ d v, dst = some d ∧ d < s.n ∧ r = s.set d v ∧ ∀ s', Like (opArgs (⟨dst, .call ⟨.builtin b, cargs, ctypes⟩, T0, pos, aft, grd⟩ : Oper)) s s' → (opQ ty cx call calls i (⟨dst, .call ⟨.builtin b, cargs, ctypes⟩, T0, pos, aft, grd⟩ : Oper) s').Is (s'.set d v) := by
      intro b h hq
      simp only [opQ, Q.is_bind'] at hq ⊢
      obtain ⟨d, hd, hq⟩ := hq
      obtain ⟨h1, h2⟩ := dstQ_is hd
      obtain ⟨v, h3, h4⟩ := h d hq
      refine ⟨d, v, h1, h2, h3, fun s' k => ⟨d, ?_, h4 s' k⟩⟩
      simp only at h1
      subst h1
      simp only [dstQ, Q.is_bind', Q.is_must, Q.is_pure]; exact ⟨(), by rw [k.n]; simpa [Nat.blt_eq] using h2, trivial⟩
    cases callee with
    | value f => simp [pureOp] at hp
    | invoke x m => simp [pureOp] at hp
    | builtin b =>
      cases b <;> first | (simp [pureOp] at hp; done) | skip
      case len =>
        refine two _ (fun d h => ?_) hq
        simp only [builtinQ] at h
        split at h <;> simp only [Q.is_fail, Q.is_bind', Q.is_pure] at h
        rename_i x T rr ha hT
        obtain ⟨n, hn, rfl⟩ := h
        refine ⟨_, rfl, fun s' k => ?_⟩
        simp only [builtinQ, ha, hT, Q.is_bind', Q.is_pure]
        exact ⟨n, lenQ_pure hn s' (k.sub fun o ho => by simp only [opArgs]; rw [ha]; simpa using ho), rfl⟩
      case max =>
        refine two _ (fun d h => ?_) hq
        simp only [builtinQ, Q.is_bind'] at h
        obtain ⟨l, hl, h⟩ := h
        have hl' : ∀ s', Like (opArgs (⟨dst, .call ⟨.builtin .max, cargs, ctypes⟩, T0, pos, aft, grd⟩ : Oper)) s s' → (s'.tvsQ cargs.toList).Is l := fun s' k => by rw [tvsQ_c fun x hx => k.ev x (by simpa [opArgs] using hx)]; exact hl
        split at h <;> simp only [Q.is_fail, Q.is_bind', Q.is_pure, Q.is_of] at h
        obtain ⟨m, hm, rfl⟩ := h
        exact ⟨_, rfl, fun s' k => by simp only [builtinQ, Q.is_bind']; exact ⟨_, hl' s' k, by simp only [Q.is_bind', Q.is_pure, Q.is_of]; exact ⟨m, hm, rfl⟩⟩⟩
      case min =>
        refine two _ (fun d h => ?_) hq
        simp only [builtinQ, Q.is_bind'] at h
        obtain ⟨l, hl, h⟩ := h
        have hl' : ∀ s', Like (opArgs (⟨dst, .call ⟨.builtin .min, cargs, ctypes⟩, T0, pos, aft, grd⟩ : Oper)) s s' → (s'.tvsQ cargs.toList).Is l := fun s' k => by rw [tvsQ_c fun x hx => k.ev x (by simpa [opArgs] using hx)]; exact hl
        split at h <;> simp only [Q.is_fail, Q.is_bind', Q.is_pure, Q.is_of] at h
        obtain ⟨m, hm, rfl⟩ := h
        exact ⟨_, rfl, fun s' k => by simp only [builtinQ, Q.is_bind']; exact ⟨_, hl' s' k, by simp only [Q.is_bind', Q.is_pure, Q.is_of]; exact ⟨m, hm, rfl⟩⟩⟩
end Go.VM
/- Soundness, part 26: regions in the order of the text. -/
namespace Go.VM
variable {P : Program} {ty : Types}
variable {cx : Nat → Inst} {call : (j : Nat) → (cx j).args.den → Option (cx j).res}

/-! ### slots that nobody writes -/
def Stays (wr : List Nat) (s0 s : St) : Prop := ∀ n, notIn wr n = true → (∀ g, g ∈ evRefs (s0.get n) → clean s g = true) → s.get n = .at .dead ∨ s.get n = s0.get n
theorem Stays.refl {wr : List Nat} (s : St) : Stays wr s s := fun _ _ _ => .inr rfl
theorem clean_iff {s : St} {h : Nat} : clean s h = true ↔ ∃ H, s.home? h = some H ∧ H.d = false := by
  unfold clean
  cases s.home? h with
  | none => simp
  | some H => simp
theorem clean_mild {s r : St} (m : Mild s r) {h : Nat} (c : clean r h = true) : clean s h = true := by
  obtain ⟨H, h1, h2⟩ := clean_iff.1 c
  exact clean_iff.2 ⟨H, m.keep h H h1 h2, h2⟩
theorem Stays.trans {wr : List Nat} {s0 s1 s2 : St} (h : Stays wr s0 s1) (k : Stays wr s1 s2) (m : Mild s1 s2) : Stays wr s0 s2 := fun n hn c => by
  rcases h n hn (fun g hg => clean_mild m (c g hg)) with e | e
  · rcases k n hn (fun g hg => by rw [e] at hg; cases hg) with e2 | e2
    · exact .inl e2
    · exact .inl (e2.trans e)
  · rcases k n hn (fun g hg => c g (by rwa [e] at hg)) with e2 | e2
    · exact .inl e2
    · exact .inr (e2.trans e)
theorem Stays.wr {wr wr' : List Nat} {s0 s1 : St} (h : Stays wr s0 s1) (hw : ∀ n, notIn wr' n = true → notIn wr n = true) : Stays wr' s0 s1 := fun n hn => h n (hw n hn)
theorem Stays.same {wr : List Nat} {s0 s : St} (h : ∀ n, s.get n = s0.get n) : Stays wr s0 s := fun n _ _ => .inr (h n)
theorem Kap.fix {κ : At → At} {r : St} (hk : Kap κ r) {e : EV} (h : ∀ g, g ∈ evRefs e → clean r g = true) : e.map κ = e := by
  have one : ∀ a, (∀ g, g ∈ atRef a → clean r g = true) → κ a = a := by
    intro a ha
    rcases hk a with e | ⟨g, e, q⟩
    · exact e
    · obtain ⟨H, h1, h2⟩ := clean_iff.1 (ha g (by cases a <;> simp only [refA, reduceCtorEq, Option.some.injEq] at e <;> subst e <;> simp [atRef]))
      rw [q H h1] at h2; cases h2
  cases e with
  | «at» a => simp only [EV.map, one a h]
  | tup l =>
    simp only [EV.map, EV.tup.injEq]
    exact (List.map_congr_left fun a ha => one a fun g hg => h g (by simp only [evRefs, List.mem_flatMap]; exact ⟨a, ha, hg⟩)).trans (List.map_id l)
  | fn f l =>
    simp only [EV.map, EV.fn.injEq, true_and]
    exact (List.map_congr_left fun a ha => one a fun g hg => h g (by simp only [evRefs, List.mem_flatMap]; exact ⟨a, ha, hg⟩)).trans (List.map_id l)
theorem loadQ_keep {s r : St} {d : Nat} {T : TypeId} {x : Operand} (hq : (loadQ ty s d T x).Is r) (n : Nat) (hn : d ≠ n) : r.get n = s.get n := by
  have plain : ∀ v, (s.set d v).get n = s.get n := fun v => by rw [get_set, if_neg hn]
  simp only [loadQ, Q.is_bind', atQ_is] at hq
  obtain ⟨v, hv, hq⟩ := hq
  cases v <;> simp only [Q.is_fail] at hq
  · simp only [Q.is_bind', Q.is_pure] at hq
    obtain ⟨_, _, rfl⟩ := hq; exact plain _
  · simp only [Q.is_bind'] at hq
    obtain ⟨r', _, _, _, hq⟩ := hq
    split at hq <;> simp only [Q.is_ret, Q.is_fail, Q.is_bind', Q.is_pure] at hq
    · subst hq; exact plain _
    · subst hq; exact plain _
    · subst hq; exact plain _
    · subst hq; exact plain _
    · obtain ⟨q, hf, rfl⟩ := hq
      rw [get_set, if_neg hn]
      simp only [St.freeze, Q.is_bind', homeQ_is, Q.is_must, Q.is_of, Q.is_pure] at hf
      obtain ⟨_, _, _, _, _, _, _, _, _, _, rfl⟩ := hf
      rfl
theorem opQ_stays {calls : List (Nat × Nat)} {i : Nat} {o : Oper} {s r : St} (hq : (opQ ty cx call calls i o s).Is r) (n : Nat) (hn : o.dst ≠ some n) (hc : ∀ g, g ∈ evRefs (s.get n) → clean r g = true) : r.get n = s.get n := by
  cases hp : pureOp o.op with
  | false =>
    obtain ⟨_, κ, hk, g, _⟩ := opQ_loc hp hq
    rw [g n hn, hk.fix hc]
  | true =>
    have nof : (noFrz s o.op).Is () → r.get n = s.get n := fun hf => by
      obtain ⟨d, v, h1, _, h2, _⟩ := opQ_pure hp hf hq
      rw [h2, get_set, if_neg (fun c => hn (by rw [h1, c]))]
    cases ho : o.op <;> first
      | (refine nof ?_; rw [ho]; simp only [noFrz, Q.is_ret]; done)
      | skip
    rename_i T x
    obtain ⟨dst, op, T0, pos, aft, grd⟩ := o
    simp only at ho
    subst ho
    simp only [opQ, Q.is_bind', op1Q] at hq
    obtain ⟨d, hd, hq⟩ := hq
    obtain ⟨h1, _⟩ := dstQ_is hd
    exact loadQ_keep hq n fun e => hn (by rw [h1, e])
theorem put_ne {a : Act} {dst : Option Tmp} {v : Value} {n : Nat} (h : dst ≠ some n) : (a.put dst v).tmps.getD n undef = a.tmps.getD n undef := by
  cases dst with
  | none => rfl
  | some d =>
    have : d ≠ n := fun e => h (by rw [e])
    simp only [Act.put, Array.getD_eq_getD_getElem?, Array.getElem?_setIfInBounds_ne this]
theorem put_size (a : Act) (dst : Option Tmp) (v : Value) : (a.put dst v).tmps.size = a.tmps.size := by cases dst <;> simp [Act.put]
theorem put_defers (a : Act) (dst : Option Tmp) (v : Value) : (a.put dst v).defers = a.defers := by cases dst <;> rfl

/-- what is known behind code that began so -/
structure Behind (wr : List Nat) (a0 : Act) (w0 : World) (I0 : CS) (s0 : St) (hr0 : Nat → HR) (a : Act) (w : World) (I : CS) (s : St) (hr : Nat → HR) : Prop where
  rel : StRel w I s hr a.tmps
  trans : Trans w0 I0 s0.home? hr0 w I s.home? hr
  mild : Mild s0 s
  defers : a.defers = a0.defers
  size : a.tmps.size = a0.tmps.size
  slots : ∀ n, notIn wr n = true → a.tmps.getD n undef = a0.tmps.getD n undef
  evs : Stays wr s0 s
theorem Behind.refl {wr : List Nat} {a : Act} {w : World} {I : CS} {s : St} {hr : Nat → HR} (R : StRel w I s hr a.tmps) : Behind wr a w I s hr a w I s hr := ⟨R, .refl .., .refl s, rfl, rfl, fun _ _ => rfl, .refl s⟩
theorem Behind.andThen {wr wr' wr2 : List Nat} {a0 a1 a2 : Act} {w0 w1 w2 : World} {I0 I1 I2 : CS} {s0 s1 s2 : St} {hr0 hr1 hr2 : Nat → HR} (h : Behind wr a0 w0 I0 s0 hr0 a1 w1 I1 s1 hr1) (k : Behind wr' a1 w1 I1 s1 hr1 a2 w2 I2 s2 hr2)
    (h1 : ∀ n, notIn wr2 n = true → notIn wr n = true ∧ notIn wr' n = true) : Behind wr2 a0 w0 I0 s0 hr0 a2 w2 I2 s2 hr2 :=
  ⟨k.rel, h.trans.trans k.trans, h.mild.trans k.mild, k.defers.trans h.defers, k.size.trans h.size, fun n hn => (k.slots n (h1 n hn).2).trans (h.slots n (h1 n hn).1), (h.evs.wr fun n hn => (h1 n hn).1).trans (k.evs.wr fun n hn => (h1 n hn).2) k.mild⟩
theorem Behind.wr {wr wr' : List Nat} {a0 a1 : Act} {w0 w1 : World} {I0 I1 : CS} {s0 s1 : St} {hr0 hr1 : Nat → HR} (h : Behind wr a0 w0 I0 s0 hr0 a1 w1 I1 s1 hr1) (h1 : ∀ n, notIn wr' n = true → notIn wr n = true) : Behind wr' a0 w0 I0 s0 hr0 a1 w1 I1 s1 hr1 :=
  ⟨h.rel, h.trans, h.mild, h.defers, h.size, fun n hn => h.slots n (h1 n hn), h.evs.wr h1⟩

theorem notIn_iff {l : List Nat} {n : Nat} : notIn l n = true ↔ n ∉ l := by
  simp only [notIn, List.all_eq_true, Bool.not_eq_true']
  constructor
  · intro h m; have := h n m; rw [beq_iff.2 rfl] at this; cases this
  · intro h k hk; exact beq_false (fun e => h (e ▸ hk))

theorem evalB {w : World} {I : CS} {s : St} {hr : Nat → HR} {a : Act} (R : StRel w I s hr a.tmps) {t : Nat} {b : Bool} (h : (s.boolQ (.tmp t)).Is b) : a.tmps[t]? = some (.bool b) := by
  have := bool_rel R h
  simp only [Act.eval, Array.getD_eq_getD_getElem?] at this
  cases e : a.tmps[t]? with
  | some v => rw [e] at this; simpa using this
  | none => rw [e] at this; simp [undef] at this

/-! ### states that tell the same -/
structure Ext (s s' : St) : Prop where
  n : s'.n = s.n
  get : ∀ n, s'.get n = s.get n
  home : ∀ h, s'.home? h = s.home? h
theorem Ext.refl (s : St) : Ext s s := ⟨rfl, fun _ => rfl, fun _ => rfl⟩
theorem Ext.trans {s s1 s2 : St} (h : Ext s s1) (k : Ext s1 s2) : Ext s s2 := ⟨k.n.trans h.n, fun n => (k.get n).trans (h.get n), fun n => (k.home n).trans (h.home n)⟩
theorem Ext.mild {s s' : St} (h : Ext s s') : Mild s s' := ⟨h.n, fun g H' e _ => by rw [← h.home]; exact e⟩
theorem Ext.hm {s s' : St} (h : Ext s s') : s'.home? = s.home? := funext h.home
theorem Ext.rel {w : World} {I : CS} {s s' : St} {hr : Nat → HR} {tmps : Array Value} (h : Ext s s') (R : StRel w I s hr tmps) : StRel w I s' hr tmps := by
  obtain ⟨r1, r2, r3⟩ := R
  refine ⟨by rw [h.hm]; exact r1, fun n => ?_, by rw [h.n]; exact r3⟩
  rw [h.get, h.hm]; exact r2 n
theorem Ext.trs {w : World} {I : CS} {s s' : St} (h : Ext s s') (hr : Nat → HR) : Trans w I s.home? hr w I s'.home? hr := by rw [h.hm]; exact .refl ..
/-- what a guard's slot tells -/
def Gd (s : St) (t : Nat) (b : Option Bool) : Prop := match b with
  | some b => (s.boolQ (.tmp t)).Is b
  | none => s.get t = .tup []
theorem Gd.c {s s' : St} {t : Nat} {b : Option Bool} (h : Gd s t b) (e : s'.get t = s.get t) : Gd s' t b := by
  cases b with
  | none => exact e.trans h
  | some b => have h2 := boolQ_is.1 h; exact boolQ_is.2 (e.trans h2)
theorem guarded_is {A : Type} {all : List Oper} {o : Oper} {s : St} {run skip : St → Option A} {r : A} (h : guarded all o s run skip = some r) :
    (o.guard = none ∧ run s = some r) ∨ ∃ j want t b s1, o.guard = some (j, want) ∧ (all[j]?).bind (·.dst) = some t ∧ Gd s t b ∧ Ext s s1 ∧ ((b = some want ∧ run s1 = some r) ∨ (b ≠ some want ∧ skip s1 = some r)) := by
  unfold guarded at h
  cases hg : o.guard with
  | none => rw [hg] at h; exact .inl ⟨rfl, h⟩
  | some gw =>
    obtain ⟨j, want⟩ := gw
    rw [hg] at h
    simp only at h
    cases ht : (all[j]?).bind (·.dst) with
    | none => rw [ht] at h; cases h
    | some t =>
      rw [ht] at h
      simp only at h
      cases hu : isUndef (s.get t) with
      | true =>
        rw [hu] at h
        have : s.get t = .tup [] := by
          cases e : s.get t with
          | tup l => rw [e] at hu; cases l with
            | nil => rfl
            | cons _ _ => cases hu
          | _ => rw [e] at hu; cases hu
        exact .inr ⟨j, want, t, none, s, rfl, ht, this, .refl s, .inr ⟨by simp, h⟩⟩
      | false =>
        rw [hu] at h
        simp only [cond_false] at h
        obtain ⟨b, hb, hk⟩ := Q.run_some.1 h
        have e : ∀ b, (s.boolQ (.tmp t)).Is b → Ext s (s.set t (.at (.pv ⟨.bool, b⟩))) := fun b hb => ⟨rfl, fun n => by
          rw [get_set]
          split
          · rename_i e; subst e; exact (boolQ_is.1 hb).symm
          · rfl, fun _ => rfl⟩
        refine .inr ⟨j, want, t, some b, _, rfl, ht, hb, e b hb, ?_⟩
        cases b <;> cases want <;> simp only [cond_true, cond_false] at hk
        · exact .inl ⟨rfl, hk⟩
        · exact .inr ⟨by simp, hk⟩
        · exact .inr ⟨by simp, hk⟩
        · exact .inl ⟨rfl, hk⟩
theorem gd_yield {w : World} {I : CS} {s : St} {hr : Nat → HR} {a : Act} {ops : Array Oper} (R : StRel w I s hr a.tmps) {j t : Nat} {b : Option Bool} (ht : (ops[j]?).bind (·.dst) = some t) (h : Gd s t b) : yielded ops a.tmps j = b := by
  cases b with
  | some b =>
    have hbv := evalB R h
    simp only [yielded, ht, Option.bind_some, hbv]
  | none =>
    have r := R.2.1 t
    have h : s.get t = .tup [] := h
    rw [h] at r
    obtain ⟨vs, e, ra⟩ := r
    have : vs = [] := by cases vs with
      | nil => rfl
      | cons _ _ => exact ra.elim
    subst this
    simp only [yielded, ht, Option.bind_some]
    rw [Array.getD_eq_getD_getElem?] at e
    cases e2 : a.tmps[t]? with
    | none => rfl
    | some v => rw [e2] at e; simp at e; subst e; rfl
theorem skip_rel {w : World} {I : CS} {s : St} {hr : Nat → HR} {a : Act} {o : Oper} (R : StRel w I s hr a.tmps) : StRel w I (skipO o s) hr (a.put o.dst undef).tmps := by
  unfold skipO
  cases hd : o.dst with
  | none => exact R
  | some d =>
    obtain ⟨r1, r2, r3⟩ := R
    refine ⟨r1, fun n => ?_, by simp [Act.put]; exact r3⟩
    simp only [get_set]
    split
    · rename_i e
      subst e
      refine ⟨[], ?_, trivial⟩
      simp only [Act.put, Array.getD_eq_getD_getElem?]
      by_cases hh : d < a.tmps.size
      · simp [hh, undef]
      · simp [hh, undef]
    · rename_i hne
      rw [put_ne (by simpa using hne)]
      exact r2 n
theorem skip_get {o : Oper} {s : St} (x : Nat) : (skipO o s).get x = if o.dst = some x then .tup [] else s.get x := by
  unfold skipO
  cases hd : o.dst with
  | none => simp
  | some d =>
    simp only [get_set, Option.some.injEq]
theorem skip_mild {s : St} {o : Oper} : Mild s (skipO o s) := by
  unfold skipO
  cases o.dst with
  | none => exact .refl s
  | some d => exact (Mild.refl s).set d _
theorem skip_hm {s : St} {o : Oper} : (skipO o s).home? = s.home? := by
  unfold skipO
  cases o.dst <;> rfl

theorem unk_some {A : Type} {K : Bool → Option A} {r : A} : unk K = some r ↔ K true = some r ∧ K false = some r := by
  unfold unk
  constructor
  · intro h
    split at h
    · rename_i e; exact ⟨h, by rw [← e]; exact h⟩
    · cases h
  · rintro ⟨h1, h2⟩
    rw [if_pos (by rw [h1, h2])]; exact h1
theorem elems_head {w : World} {I : CS} {s : St} {hr : Nat → HR} {a : Act} (R : StRel w I s hr a.tmps) {x : Operand} {g : Nat} {p : Path} {l : (e : Ty) × List e.den} (hv : s.ev x = .at (.rf g p)) (hq : (s.elemsQ g p).Is l) :
    ∃ ad n c, a.eval x = .slice ad n c ∧ n = l.2.length ∧ (n = 0 ∨ ∃ z, ad = some z) := by
  have hr0 := at_rel R hv
  obtain ⟨H, sh, hH, hl, hw⟩ := elemsQ_is.1 hq
  obtain ⟨ok, loc, csp, t, l1, ty', rr⟩ := hr0 H hH
  obtain ⟨fpp, rep, sf⟩ := look_home R hH ok hl l1
  have := look_type2 hl ty'
  subst this
  have := locSl rep rfl rr
  subst this
  obtain ⟨ad, cap, e1, e2, b, off, e3⟩ := slice_hdr rep hw
  simp only [List.cons.injEq, and_true] at e1
  exact ⟨ad, _, cap, e1, rfl, e3.imp id fun e => ⟨_, e⟩⟩
theorem nilTest_is {op : Op} {pos : Bool} {x : Operand} {T : TypeId} (h : nilTest op = some (pos, x, T)) : ∃ U, op = .binOp (bif pos then .eql else .neq) T x (.const (.slice none 0 0)) U := by
  have nc : ∀ y, isNilC y = true → y = .const (.slice none 0 0) := by
    intro y hy
    unfold isNilC at hy
    split at hy
    · split at hy
      · split at hy
        · rfl
        · cases hy
      · cases hy
    · cases hy
  unfold nilTest at h
  split at h
  · rename_i T' x' y U
    cases hy : isNilC y with
    | false => rw [hy] at h; cases h
    | true => rw [hy] at h; cases h; exact ⟨U, by rw [nc y hy]; rfl⟩
  · rename_i T' x' y U
    cases hy : isNilC y with
    | false => rw [hy] at h; cases h
    | true => rw [hy] at h; cases h; exact ⟨U, by rw [nc y hy]; rfl⟩
  · cases h
theorem run_eqGuard_slice {op : BinOp} (T : TypeId) (x y : Operand) (ad : Option Addr) (n c : Nat) (b : Value) (w : World) : (eqGuard op T x y (.slice ad n c) b).run P w = .ok () w := by
  unfold eqGuard
  cases op <;> rfl
theorem opRun_sound (tok : TyOK P ty) (cok : CallOK P cx call) {A : Type} {calls : List (Nat × Nat)} {i : Nat} {o : Oper} {K : St → Option A} {r : A} {a : Act} {w : World} {I : CS} {s : St} {hr : Nat → HR} (R : StRel w I s hr a.tmps) (h : opRun ty cx call calls i o s K = some r) :
    ∃ s1, StepOK P o a w I s hr s1 ∧ Mild s s1 ∧ (∀ n, o.dst ≠ some n → (∀ g, g ∈ evRefs (s.get n) → clean s1 g = true) → s1.get n = s.get n) ∧ K s1 = some r := by
  unfold opRun at h
  cases hn : nilTest o.op with
  | none =>
    rw [hn] at h
    obtain ⟨s1, h1, h2⟩ := Q.run_some.1 h
    obtain ⟨st, ml⟩ := op_sound tok cok R h1
    exact ⟨s1, st, ml, opQ_stays h1, h2⟩
  | some t =>
    obtain ⟨pos, x, T⟩ := t
    rw [hn] at h
    simp only at h
    obtain ⟨U, ho⟩ := nilTest_is hn
    cases hd : o.dst with
    | none => rw [hd] at h; cases h
    | some d =>
      rw [hd] at h
      simp only at h
      rw [← hd]
      cases hlt : Nat.blt d s.n with
      | false => rw [hlt] at h; cases h
      | true =>
        rw [hlt] at h
        simp only [cond_true] at h
        have hdn : d < s.n := by simpa [Nat.blt_eq] using hlt
        -- the test tells whether the address is none
        have step : ∀ (e : Ty) (ad : Option Addr) (n c : Nat), ty.ty T = some (.sl e) → a.eval x = .slice ad n c → ∀ b, b = (bif pos then ad.isNone else !ad.isNone) → StepOK P o a w I s hr (s.set d (.at (.pv ⟨.bool, b⟩))) := by
          intro e ad n c hT hx b hb
          obtain ⟨E, hu, _⟩ : ∃ E, P.underlying T = some (.slice E) ∧ ty.ty E = some e := by simpa only [FitD] using tok.desc T _ hT
          refine Done.step (done_pure R hdn (v := .bool b) ?_ (pv_bool b)) hd
          subst hb
          have hc : a.eval (.const (.slice none 0 0)) = .slice none 0 0 := rfl
          cases pos with
          | true =>
            have h2 : (binOp .eql T (a.eval x) (a.eval (.const (.slice none 0 0)))).run P w = .ok (.bool ad.isNone) w := by rw [hx, hc]; exact Lib.run_eql_slice_nil w T E ad n c 0 0 hu
            have h1 : (eqGuard .eql T x (.const (.slice none 0 0)) (a.eval x) (a.eval (.const (.slice none 0 0)))).run P w = .ok () w := by rw [hx]; exact run_eqGuard_slice ..
            simp [execOp, ho, h1, h2]
          | false =>
            have h2 : (binOp .neq T (a.eval x) (a.eval (.const (.slice none 0 0)))).run P w = .ok (.bool !ad.isNone) w := by rw [hx, hc]; exact run_neq_slice_nil_any w T E ad n c 0 0 hu
            have h1 : (eqGuard .neq T x (.const (.slice none 0 0)) (a.eval x) (a.eval (.const (.slice none 0 0)))).run P w = .ok () w := by rw [hx]; exact run_eqGuard_slice ..
            simp [execOp, ho, h1, h2]
        have ml : ∀ b, Mild s (s.set d (.at (.pv ⟨.bool, b⟩))) := fun b => (Mild.refl s).set d _
        have ge : ∀ b n, o.dst ≠ some n → (∀ g, g ∈ evRefs (s.get n) → clean (s.set d (.at (.pv ⟨.bool, b⟩))) g = true) → (s.set d (.at (.pv ⟨.bool, b⟩))).get n = s.get n := fun b n hn _ => by rw [get_set, if_neg (fun c => hn (by rw [hd, c]))]
        have fin : ∀ {e : Ty} {l : List e.den} {ad : Option Addr} {n c : Nat}, a.eval x = .slice ad n c → n = l.length → (n = 0 ∨ ∃ z, ad = some z) → nilK ty s d T pos K e l = some r → ∃ s1, StepOK P o a w I s hr s1 ∧ Mild s s1 ∧ (∀ n, o.dst ≠ some n → (∀ g, g ∈ evRefs (s.get n) → clean s1 g = true) → s1.get n = s.get n) ∧ K s1 = some r := by
          intro e l ad n c hx hl hz hk
          unfold nilK at hk
          cases hT : decide (ty.ty T = some (.sl e)) with
          | false => rw [hT] at hk; cases hk
          | true =>
            rw [hT] at hk
            simp only [cond_true] at hk
            have hT := of_decide_eq_true hT
            cases he : l.isEmpty with
            | true =>
              rw [he] at hk
              simp only [cond_true] at hk
              obtain ⟨k1, k2⟩ := unk_some.1 hk
              refine ⟨_, step e ad n c hT hx _ rfl, ml _, ge _, ?_⟩
              cases (bif pos then ad.isNone else !ad.isNone) with
              | true => exact k1
              | false => exact k2
            | false =>
              rw [he] at hk
              simp only [cond_false] at hk
              have : 0 < l.length := by cases l with
                | nil => cases he
                | cons _ _ => simp
              obtain ⟨z, rfl⟩ := hz.resolve_left (by omega)
              exact ⟨_, step e _ n c hT hx (!pos) (by cases pos <;> rfl), ml _, ge _, hk⟩
        split at h
        · rename_i he
          split at h
          · rename_i e hT
            have hx : a.eval x = .slice none 0 0 := by
              have := ev_rel R x
              rw [he] at this
              exact this
            exact ⟨_, step e none 0 0 hT hx pos (by cases pos <;> rfl), ml _, ge _, h⟩
          · cases h
        · rename_i v he
          split at h
          · rename_i l hv
            obtain ⟨cs, e1, rc⟩ := pv_rel R (tvQ_is.2 he)
            obtain ⟨e, l⟩ := l
            have : v = ⟨.sl e, l⟩ := by
              obtain ⟨t, y⟩ := v
              cases t <;> simp only [asList, reduceCtorEq] at hv
              simp only [Option.some.injEq] at hv
              cases hv; rfl
            subst this
            simp only [RepC] at rc
            obtain ⟨ad, n, c, rfl, hl, hc, b, off, hz, _⟩ := rc
            exact fin (by rw [e1]; rfl) hl (hz.imp id fun e => ⟨_, e⟩) h
          · cases h
        · rename_i g p he
          obtain ⟨l, hl, h⟩ := Q.run_some.1 h
          obtain ⟨ad, n, c, hx, hn2, hz⟩ := elems_head R he hl
          exact fin hx hn2 hz h
        · cases h

theorem ops_sound (tok : TyOK P ty) (cok : CallOK P cx call) {A : Type} {calls : List (Nat × Nat)} {ops : Array Oper} {K : St → Option A} {r : A} {QQ : Exit → Act → World → Prop} {wr : List Nat} (hwr : ∀ o, o ∈ ops.toList → ∀ d, o.dst = some d → d ∈ wr) :
    ∀ (l pre : List Oper) (s : St) (a : Act) (w : World) (I : CS) (hr : Nat → HR), ops.toList = pre ++ l → StRel w I s hr a.tmps → opsK ty cx call calls ops.toList K pre.length l s = some r →
      (∀ a' w' I' s' hr', Behind wr a w I s hr a' w' I' s' hr' → K s' = some r → QQ .normal a' w') →
      wpOps P ops QQ (List.range' pre.length l.length) a w := by
  intro l
  induction l with
  | nil =>
    intro pre s a w I hr hl R hk hQ
    simp only [opsK] at hk
    exact hQ a w I s hr (.refl R) hk
  | cons o l ih =>
    intro pre s a w I hr hl R hk hQ
    have ho : ops[pre.length]? = some o := by
      rw [← Array.getElem?_toList, hl, List.getElem?_append_right (Nat.le_refl _), Nat.sub_self]; rfl
    have hmem : o ∈ ops.toList := by rw [hl]; exact List.mem_append_right _ List.mem_cons_self
    have hnext : ∀ {s1 : St} {a1 : Act} {w1 : World} {I1 : CS} {hr1 : Nat → HR}, Behind wr a w I s hr a1 w1 I1 s1 hr1 → opsK ty cx call calls ops.toList K (pre.length + 1) l s1 = some r → wpOps P ops QQ (List.range' (pre.length + 1) l.length) a1 w1 := by
      intro s1 a1 w1 I1 hr1 B hk1
      have := ih (pre ++ [o]) s1 a1 w1 I1 hr1 (by rw [hl]; simp) B.rel (by simpa using hk1) (fun a' w' I' s' hr' B' hk' => hQ a' w' I' s' hr' (B.andThen B' fun n hn => ⟨hn, hn⟩) hk')
      simpa using this
    have hrun : ∀ {s0 : St}, Ext s s0 → opRun ty cx call calls pre.length o s0 (opsK ty cx call calls ops.toList K (pre.length + 1) l) = some r → o.wp P a w (wpOps P ops QQ (List.range' (pre.length + 1) l.length)) QQ := by
      intro s0 he h
      obtain ⟨s1, st, ml, ge, h2⟩ := opRun_sound tok cok (he.rel R) h
      refine Oper.wp_mono (fun a' w' ⟨v, I', hr', e, R', T'⟩ => ?_) (st QQ)
      subst e
      exact hnext ⟨R', (he.trs hr).trans T', he.mild.trans ml, put_defers .., put_size .., fun n hn => put_ne fun e => notIn_iff.1 hn (hwr o hmem n e), fun n hn c => .inr ((ge n (fun e => notIn_iff.1 hn (hwr o hmem n e)) (fun g hg => c g (by rwa [he.get] at hg))).trans (he.get n))⟩ h2
    rw [List.length_cons, List.range'_succ]
    simp only [wpOps, ho]
    simp only [opsK] at hk
    rcases guarded_is hk with ⟨hg, hk⟩ | ⟨j, want, t, b, s1, hg, ht, hb, he, hk⟩
    · simp only [Region.wanted, hg, if_true]
      exact .inl (hrun (.refl s) hk)
    · have hjj : ops.toList[j]? = ops[j]? := Array.getElem?_toList
      rw [hjj] at ht
      have hy : yielded ops a.tmps j = b := gd_yield R ht hb
      rcases hk with ⟨hbw, hk⟩ | ⟨hbw, hk⟩
      · have : Region.wanted o (yielded ops a.tmps) = true := by
          simp only [Region.wanted, hg, hy]; simp [hbw]
        rw [if_pos this]
        exact .inl (hrun he hk)
      · have : ¬ Region.wanted o (yielded ops a.tmps) = true := by
          simp only [Region.wanted, hg, hy]; simp [hbw]
        rw [if_neg this]
        exact hnext ⟨skip_rel (he.rel R), by rw [skip_hm]; exact he.trs hr, he.mild.trans skip_mild, put_defers .., put_size .., fun n hn => put_ne fun e => notIn_iff.1 hn (hwr o hmem n e), fun n hn c => .inr (by rw [skip_get, if_neg (fun e => notIn_iff.1 hn (hwr o hmem n e)), he.get])⟩ hk

theorem region_sound (tok : TyOK P ty) (cok : CallOK P cx call) {A : Type} {calls : List (Nat × Nat)} {id : Nat} {ops : Array Oper} {K : St → Option A} {r : A} {QQ : Exit → Act → World → Prop} {s : St} {a : Act} {w : World} {I : CS} {hr : Nat → HR}
    (R : StRel w I s hr a.tmps) (hk : opsK ty cx call calls ops.toList K 0 ops.toList s = some r) (hQ : ∀ a' w' I' s' hr', Behind (writes (.region id ops false)) a w I s hr a' w' I' s' hr' → K s' = some r → QQ .normal a' w') :
    (Code.region id ops false).wp P QQ a w := by
  refine wp_region ?_
  have := ops_sound tok cok (wr := writes (.region id ops false)) (fun o ho d hd => by simp only [writes, List.mem_filterMap]; exact ⟨o, ho, hd⟩) ops.toList [] s a w I hr rfl R hk hQ
  rw [List.range_eq_range']
  simpa using this
end Go.VM
/- Soundness, part 27a: marks. -/
namespace Go.VM
variable {P : Program} {ty : Types}

/-! ### marks mean nothing to the world -/
structure SameM (s s' : St) : Prop where
  n : s'.n = s.n
  get : ∀ n, s'.get n = s.get n
  home : ∀ h, (s'.home? h).map (·.mark true) = (s.home? h).map (·.mark true)
theorem SameM.symm {s s' : St} (h : SameM s s') : SameM s' s := ⟨h.n.symm, fun n => (h.get n).symm, fun g => (h.home g).symm⟩
theorem SameM.some {s s' : St} (h : SameM s s') {g : Nat} {H' : Home} (e : s'.home? g = some H') : ∃ H, s.home? g = some H ∧ H' = H.mark H'.d := by
  have := h.home g
  rw [e] at this
  cases e2 : s.home? g with
  | none => rw [e2] at this; cases this
  | some H =>
    rw [e2] at this
    refine ⟨H, rfl, ?_⟩
    obtain ⟨a1, a2, a3, a4, a5, a6⟩ := H
    obtain ⟨b1, b2, b3, b4, b5, b6⟩ := H'
    simp only [Option.map_some, Option.some.injEq, Home.mark, Home.mk.injEq] at this ⊢
    exact ⟨this.1, this.2.1, this.2.2.1, this.2.2.2.1, this.2.2.2.2.1, trivial⟩
theorem SameM.rel {w : World} {I : CS} {s s' : St} {hr : Nat → HR} {tmps : Array Value} (h : SameM s s') (R : StRel w I s hr tmps) : StRel w I s' hr tmps := by
  obtain ⟨Rr, Rs, Rn⟩ := R
  refine ⟨⟨fun g H' e => ?_, fun g k G' K' e1 e2 ne => ?_, fun g H' e => ?_, Rr.old, fun g H' e => ?_⟩, fun n => ?_, by rw [h.n]; exact Rn⟩
  · obtain ⟨H, e1, e2⟩ := h.some e
    have := Rr.home g H e1
    rw [e2]; exact this
  · obtain ⟨G, a1, _⟩ := h.some e1
    obtain ⟨K, a2, _⟩ := h.some e2
    exact Rr.disj g k G K a1 a2 ne
  · obtain ⟨H, e1, e2⟩ := h.some e
    exact Rr.apart g H e1
  · obtain ⟨H, e1, e2⟩ := h.some e
    exact Rr.oldf g H e1
  · rw [h.get]
    have := EvRel_map (f := id) (w' := w) (I' := I) (hm' := s'.home?) (hr' := hr) (fun a r ha => AtRel_stay (.refl _) (Keep.refl _ _) (fun g _ => by
      cases e : s'.home? g with
      | none => exact .inl e
      | some H' =>
        obtain ⟨H, e1, e2⟩ := h.some e
        exact .inr ⟨H, H', e1, e, by rw [e2]; rfl, by rw [e2]; rfl, rfl, Keep.refl _ _, .refl _⟩) ha) (Rs n)
    rwa [EV.map_id] at this
theorem SameM.tot {s s' : St} (h : SameM s s') (hr : Nat → HR) : Sub (tot s'.home? hr) (tot s.home? hr) := fun b o ⟨g, H', e, x⟩ => by
  obtain ⟨H, e1, _⟩ := h.some e; exact ⟨g, H, e1, x⟩
theorem SameM.trans {w : World} {I : CS} {s s' : St} (hr : Nat → HR) (h : SameM s s') : Trans w I s.home? hr w I s'.home? hr :=
  ⟨.refl _ _, .refl _, fun _ _ x => .inl x, fun b o x => .inl (h.tot hr b o x), fun g H' e io => by
    obtain ⟨H, e1, e2⟩ := h.some e
    rw [e2] at io
    exact ⟨H, e1, io, by rw [e2]; rfl, by rw [e2]; rfl, rfl⟩⟩

theorem injHm_d : ∀ {l : List (Nat × HmT)} {x : hmD l} {n : Nat} {H : Home}, getL (injHm l x) n = some (some H) → H.d = true
  | [], _, _, _, h => by cases h
  | (k, g) :: r, x, n, H, h => by
    simp only [injHm, getL_cons] at h
    split at h
    · cases h; rfl
    · exact injHm_d h
theorem offHm_get (s : St) : ∀ (l : List Nat) (n : Nat), getL (offHm s l) n = if n ∈ l then some ((s.home? n).map (·.mark false)) else none
  | [], n => rfl
  | k :: r, n => by
    simp only [offHm, getL_cons, List.mem_cons]
    by_cases h : k = n
    · subst h; simp
    · rw [if_neg h, offHm_get s r n]
      simp [Ne.symm h]
theorem keepHm_get (s : St) : ∀ (l : List Nat) (n : Nat), getL (keepHm s l) n = if n ∈ l then some (s.home? n) else none
  | [], n => rfl
  | k :: r, n => by
    simp only [keepHm, getL_cons, List.mem_cons]
    by_cases h : k = n
    · subst h; simp
    · rw [if_neg h, keepHm_get s r n]
      simp [Ne.symm h]
/-- the home with both marks -/
def bothM : Option Home → Option Home → Option Home
  | some H0, some H => some (H.mark (H0.d || H.d))
  | _, o => o
theorem fix1_get (s0 s : St) (k : Nat) : (fix1 s0 s k).n = s.n ∧ (∀ n, (fix1 s0 s k).get n = s.get n) ∧ ∀ h, (fix1 s0 s k).home? h = if k = h then bothM (s0.home? h) (s.home? h) else s.home? h := by
  unfold fix1
  cases e0 : s0.home? k with
  | none =>
    refine ⟨rfl, fun _ => rfl, fun h => ?_⟩
    by_cases e : k = h
    · subst e; rw [if_pos rfl, e0]; rfl
    · rw [if_neg e]
  | some H0 =>
    cases e1 : s.home? k with
    | none =>
      refine ⟨rfl, fun _ => rfl, fun h => ?_⟩
      by_cases e : k = h
      · subst e; rw [if_pos rfl, e0, e1]; rfl
      · rw [if_neg e]
    | some H =>
      refine ⟨rfl, fun _ => rfl, fun h => ?_⟩
      simp only [home?_setH]
      by_cases e : k = h
      · subst e; rw [if_pos rfl, if_pos rfl, e0, e1]; rfl
      · rw [if_neg e, if_neg e]
theorem bothM_idem (a b : Option Home) : bothM a (bothM a b) = bothM a b := by
  cases a <;> cases b <;> simp [bothM, Home.mark]
theorem fixHm_get (s0 : St) : ∀ (l : List Nat) (s : St), (fixHm s0 s l).n = s.n ∧ (∀ n, (fixHm s0 s l).get n = s.get n) ∧ ∀ h, (fixHm s0 s l).home? h = if h ∈ l then bothM (s0.home? h) (s.home? h) else s.home? h
  | [], s => ⟨rfl, fun _ => rfl, fun h => by simp [fixHm]⟩
  | k :: r, s => by
    obtain ⟨h1, h2, h3⟩ := fixHm_get s0 r (fix1 s0 s k)
    obtain ⟨g1, g2, g3⟩ := fix1_get s0 s k
    simp only [fixHm]
    refine ⟨h1.trans g1, fun n => (h2 n).trans (g2 n), fun h => ?_⟩
    rw [h3, g3]
    by_cases e : k = h
    · subst e
      simp only [List.mem_cons, true_or, if_true, bothM_idem, ite_self]
    · have hne : h ≠ k := Ne.symm e
      simp [e, hne]
theorem fixHm_same (s0 s : St) (l : List Nat) : SameM s (fixHm s0 s l) := by
  obtain ⟨h1, h2, h3⟩ := fixHm_get s0 l s
  refine ⟨h1, h2, fun h => ?_⟩
  rw [h3]
  split
  · cases s0.home? h <;> cases s.home? h <;> rfl
  · rfl
theorem off_home (m : Tm) (s : St) (h : Nat) : (m.off s).home? h = if h ∈ m.kh then (s.home? h).map (·.mark false) else s.home? h := by
  simp only [Tm.off, St.home?, getL_app]
  rw [offHm_get]
  split
  · rename_i e; split at e <;> cases e
    rename_i hk; rw [if_pos hk]; rfl
  · rename_i e; split at e
    · cases e
    · rename_i hk; rw [if_neg hk]
theorem off_same (m : Tm) (s : St) : SameM s (m.off s) := by
  refine ⟨rfl, fun _ => rfl, fun h => ?_⟩
  rw [off_home]
  split
  · cases s.home? h <;> rfl
  · rfl

theorem keptHm_is {s : St} : ∀ {l : List Nat} {u : Unit}, (keptHm s l).Is u → ∀ n, n ∈ l → ∃ H, s.home? n = some H ∧ H.d = false
  | [], _, _, n, h => by cases h
  | k :: r, u, hq, n, h => by
    simp only [keptHm, Q.is_bind', homeQ_is, Q.is_must, Bool.not_eq_true'] at hq
    obtain ⟨H, h1, _, h2, h3⟩ := hq
    rcases List.mem_cons.1 h with rfl | h
    · exact ⟨H, h1, h2⟩
    · exact keptHm_is h3 n h
theorem keptSl_is {kh : List Nat} {s0 s : St} : ∀ {l : List Nat} {u : Unit}, (keptSl kh s0 s l).Is u → ∀ n, n ∈ l → (∃ v, s0.get n = .at (.pv v)) ∨ (∃ v, s0.get n = .at (.cref v)) ∨ s0.get n = s.get n ∨ ((∀ g, g ∈ evRefs (s0.get n) → g ∈ kh) ∧ s.get n ≠ .at .dead)
  | [], _, _, n, h => by cases h
  | k :: r, u, hq, n, h => by
    simp only [keptSl] at hq
    split at hq
    · rename_i v hv
      rcases List.mem_cons.1 h with rfl | h
      · exact .inl ⟨_, hv⟩
      · exact keptSl_is hq n h
    · rename_i v hv
      rcases List.mem_cons.1 h with rfl | h
      · exact .inr (.inl ⟨_, hv⟩)
      · exact keptSl_is hq n h
    · simp only [Q.is_bind', Q.is_must, Bool.or_eq_true, Bool.and_eq_true] at hq
      obtain ⟨_, h1, h2⟩ := hq
      rcases List.mem_cons.1 h with rfl | h
      · rcases h1 with h1 | ⟨h1, h3⟩
        · exact .inr (.inr (.inl (eqEV_eq h1)))
        · refine .inr (.inr (.inr ⟨fun g hg => ?_, fun e => by rw [e] at h3; cases h3⟩))
          have := List.all_eq_true.1 h1 g hg
          simp only [hasN, List.any_eq_true] at this
          obtain ⟨x, hx, e⟩ := this
          rw [beq_iff.1 e]; exact hx
      · exact keptSl_is h2 n h
theorem canon_is {m : Tm} {s0 s : St} {v : m.den} (h : (m.canon s0 s).Is v) : (∀ n, n ∈ m.ks → (∃ v, s0.get n = .at (.pv v)) ∨ (∃ v, s0.get n = .at (.cref v)) ∨ s0.get n = s.get n ∨ ((∀ g, g ∈ evRefs (s0.get n) → g ∈ m.kh) ∧ s.get n ≠ .at .dead)) ∧ (∀ n, n ∈ m.kh → ∃ H, s.home? n = some H ∧ H.d = false) ∧
    (canonSl s m.sl).Is v.1 ∧ (canonHm s m.hm).Is v.2 := by
  simp only [Tm.canon, Q.is_bind', Q.is_pure] at h
  obtain ⟨_, h1, _, h2, x, h3, y, h4, rfl⟩ := h
  exact ⟨keptSl_is h1, keptHm_is h2, h3, h4⟩
theorem first_is {m : Tm} {s : St} {v : m.den} (h : (m.first s).Is v) : (canonSl s m.sl).Is v.1 ∧ (canonHm s m.hm).Is v.2 := by
  simp only [Tm.first, Q.is_bind', Q.is_pure] at h
  obtain ⟨x, h3, y, h4, rfl⟩ := h
  exact ⟨h3, h4⟩

/-- a plain value stays told, whatever happens -/
theorem pv_stays {w w' : World} {I I' : CS} {s : St} {hr : Nat → HR} {tmps tmps' : Array Value} {hm' : Hm} {hr' : Nat → HR} (R : StRel w I s hr tmps) (T : Trans w I s.home? hr w' I' hm' hr') {n : Nat} (he : tmps'.getD n undef = tmps.getD n undef)
    (hv : (∃ v, s.get n = .at (.pv v)) ∨ ∃ v, s.get n = .at (.cref v)) : ∀ hm hr, EvRel w' I' hm hr (s.get n) (tmps'.getD n undef) := by
  intro hm2 hr2
  have kI : Keep w w' I := T.fr.keep R.1.old R.1.dI
  have h0 := R.2.1 n
  rw [he]
  rcases hv with ⟨v, hv⟩ | ⟨v, hv⟩
  · rw [hv] at h0 ⊢
    obtain ⟨cs, e, c⟩ := h0
    exact ⟨cs, e, RepC_keep T.sub kI c⟩
  · rw [hv] at h0 ⊢
    obtain ⟨b, o, cs, e, c, k, i⟩ := h0
    exact ⟨b, o, cs, e, RepC_keep T.sub kI c, k.keep fun j hj => (kI _ _ (i j hj)).1, fun j hj => T.sub _ _ (i j hj)⟩


theorem fix_clean {s0 s : St} {l : List Nat} {g : Nat} (c : clean (fixHm s0 s l) g = true) : clean s g = true := by
  obtain ⟨H, h1, h2⟩ := clean_iff.1 c
  rw [(fixHm_get s0 l s).2.2] at h1
  split at h1
  · cases e0 : s0.home? g with
    | none => rw [e0] at h1; cases e1 : s.home? g with
      | none => rw [e1] at h1; cases h1
      | some H1 => rw [e1] at h1; exact clean_iff.2 ⟨H1, e1, by cases h1; exact h2⟩
    | some H0 =>
      rw [e0] at h1
      cases e1 : s.home? g with
      | none => rw [e1] at h1; cases h1
      | some H1 =>
        rw [e1] at h1
        simp only [bothM, Option.some.injEq] at h1
        subst h1
        have h2 : (H0.d || H1.d) = false := h2
        simp only [Bool.or_eq_false_iff] at h2
        exact clean_iff.2 ⟨H1, e1, h2.2⟩
  · exact clean_iff.2 ⟨H, h1, h2⟩
/-- behind code that was entered with marks taken off, the marks as they were or as they are -/
theorem fix_behind {wr : List Nat} {a a' : Act} {w w' : World} {I I' : CS} {s s' : St} {hr hr' : Nat → HR} (m : Tm) (R : StRel w I s hr a.tmps) (B : Behind wr a w I (m.off s) hr a' w' I' s' hr') : Behind wr a w I s hr a' w' I' (fixHm s s' m.kh) hr' := by
  have sm := off_same m s
  have T1 : Trans w I s.home? hr w I (m.off s).home? hr := sm.trans hr
  have fm := fixHm_same s s' m.kh
  refine ⟨fm.rel B.rel, (T1.trans B.trans).trans (fm.trans hr'), ⟨(fm.n.trans B.mild.n).trans sm.n, fun h H' e1 e2 => ?_⟩, B.defers, B.size, B.slots, fun n hn c => by rw [fm.get]; exact B.evs n hn fun g hg => fix_clean (c g hg)⟩
  rw [(fixHm_get s m.kh s').2.2] at e1
  by_cases hk : h ∈ m.kh
  · rw [if_pos hk] at e1
    cases a1 : s'.home? h with
    | none => rw [a1] at e1; cases hz : s.home? h <;> rw [hz] at e1 <;> cases e1
    | some H =>
      cases a0 : s.home? h with
      | none =>
        rw [a0, a1] at e1
        simp only [bothM] at e1
        cases e1
        have := B.mild.keep h H' a1 e2
        rw [off_home, if_pos hk, a0] at this
        cases this
      | some H0 =>
        rw [a0, a1] at e1
        simp only [bothM, Option.some.injEq] at e1
        subst e1
        have e2 : (H0.d || H.d) = false := e2
        simp only [Bool.or_eq_false_iff] at e2
        have := B.mild.keep h H a1 e2.2
        rw [off_home, if_pos hk, a0] at this
        simp only [Option.map_some, Option.some.injEq] at this
        subst this
        obtain ⟨q1, q2, q3, q4, q5, q6⟩ := H0
        simp only at e2
        simp [Home.mark, e2.1]
  · rw [if_neg hk] at e1
    have := B.mild.keep h H' e1 e2
    rwa [off_home, if_neg hk] at this
end Go.VM
/- Soundness, draws, part 4: a region that draws its order. -/
namespace Go.VM
variable {P : Program} {ty : Types}
variable {cx : Nat → Inst} {call : (j : Nat) → (cx j).args.den → Option (cx j).res}

theorem hasN_iff {l : List Nat} {n : Nat} : hasN l n = true ↔ n ∈ l := by
  simp only [hasN, List.any_eq_true]
  exact ⟨fun ⟨x, hx, e⟩ => by rw [beq_iff.1 e]; exact hx, fun h => ⟨n, h, beq_iff.2 rfl⟩⟩
theorem nodupN_iff : ∀ {l : List Nat}, nodupN l = true → l.Nodup
  | [], _ => List.nodup_nil
  | n :: r, h => by
    simp only [nodupN, Bool.and_eq_true, Bool.not_eq_true'] at h
    refine List.nodup_cons.2 ⟨fun hn => ?_, nodupN_iff h.2⟩
    rw [hasN_iff.2 hn] at h
    cases h.1
def binds (o : Oper) (j : Nat) : Prop := ∃ e, e ∈ o.after ∧ Region.binds .any e = true ∧ e.on = j
theorem edgeTo_iff {o : Oper} {j : Nat} : edgeTo o j = true ↔ binds o j := by
  simp only [edgeTo, List.any_eq_true, Bool.and_eq_true, binds, Array.mem_toList_iff]
  exact ⟨fun ⟨e, h, a, b⟩ => ⟨e, h, a, beq_iff.1 b⟩, fun ⟨e, h, a, b⟩ => ⟨e, h, a, beq_iff.2 b⟩⟩
theorem deps_iff {o : Oper} {j : Nat} : j ∈ depsOf o ↔ binds o j := by
  unfold depsOf binds
  rw [List.mem_filterMap]
  constructor
  · rintro ⟨e, h1, h2⟩
    cases hb : Region.binds .any e with
    | false => rw [hb] at h2; cases h2
    | true => rw [hb] at h2; exact ⟨e, by simpa using h1, hb, Option.some.inj h2⟩
  · rintro ⟨e, h1, h2, h3⟩
    exact ⟨e, by simpa using h1, by rw [h2, cond_true, h3]⟩
theorem downs_in {all : List Oper} {D : Nat → Prop} (hc : ∀ k p m, D k → all[k]? = some p → binds p m → D m) : ∀ (r L : List Nat), (∀ k, k ∈ L → D k) → ∀ j, j ∈ downs all r L → D j
  | [], L, h, j, hj => h j hj
  | i :: r, L, h, j, hj => by
    refine downs_in hc r _ (fun k hk => ?_) j hj
    cases hh : hasN L i with
    | false => rw [hh, cond_false] at hk; exact h k hk
    | true =>
      rw [hh, cond_true] at hk
      have hi : i ∈ L := by
        unfold hasN at hh
        obtain ⟨m, m1, m2⟩ := List.any_eq_true.1 hh
        rw [Nat.eq_of_beq_eq_true m2]; exact m1
      cases hp : all[i]? with
      | none => rw [hp] at hk; exact h k hk
      | some p =>
        rw [hp] at hk
        rcases List.mem_append.1 hk with hk | hk
        · exact hc i p k (h i hi) hp (deps_iff.1 hk)
        · exact h k hk
theorem edgeBy_is {all : List Oper} {done : List Nat} {o : Oper} {j : Nat} (h : edgeBy all done o j = true) {D : Nat → Prop} (hD : ∀ k, binds o k → D k) (hc : ∀ k p m, D k → all[k]? = some p → binds p m → D m) : D j := by
  simp only [edgeBy, Bool.or_eq_true] at h
  rcases h with h | h
  · exact hD j (edgeTo_iff.1 h)
  · have hj : j ∈ downs all done (depsOf o) := by
      unfold hasN at h
      obtain ⟨m, m1, m2⟩ := List.any_eq_true.1 h
      rw [Nat.eq_of_beq_eq_true m2]; exact m1
    exact downs_in hc done _ (fun k hk => hD k (deps_iff.1 hk)) j hj
theorem zipI_mem {α : Type} : ∀ {l : List α} {n i : Nat} {a : α}, l[i]? = some a → (n + i, a) ∈ zipI n l
  | [], _, _, _, h => by simp at h
  | b :: r, n, i, a, h => by
    cases i with
    | zero => simp at h; subst h; exact List.mem_cons_self
    | succ i =>
      simp at h
      have := zipI_mem (n := n + 1) h
      rw [zipI]
      refine List.mem_cons_of_mem _ ?_
      rwa [Nat.add_right_comm] at this
theorem pair_ok {all : List Oper} (h : pairsOK all = true) {i j : Nat} {o p : Oper} (hi : all[i]? = some o) (hj : all[j]? = some p) : pairOK all i o j p = true := by
  simp only [pairsOK, List.all_eq_true] at h
  have := h _ (zipI_mem (n := 0) hi) _ (zipI_mem (n := 0) hj)
  simpa using this
def looks (all : List Oper) (o : Oper) : List Operand := opArgs o ++ guardTmp all o
theorem any_isTmp {l : List Operand} {d : Nat} (h : Operand.tmp d ∈ l) : l.any (isTmp d) = true := List.any_eq_true.2 ⟨_, h, beq_iff.2 rfl⟩
theorem pair_dst {all : List Oper} (h : pairsOK all = true) {i j : Nat} {o p : Oper} {d e : Nat} (hi : all[i]? = some o) (hj : all[j]? = some p) (hne : i ≠ j) (hd : o.dst = some d) (he : p.dst = some e) : e ≠ d := by
  have := pair_ok h hi hj
  simp only [pairOK, beq_false hne, cond_false, hd, he, Bool.and_eq_true, Bool.not_eq_true'] at this
  intro c
  rw [c, beq_iff.2 rfl] at this
  cases this.1
theorem pair_look {all : List Oper} (h : pairsOK all = true) {i j : Nat} {o p : Oper} {d : Nat} (hi : all[i]? = some o) (hj : all[j]? = some p) (hne : i ≠ j) (hd : p.dst = some d) (hl : Operand.tmp d ∈ looks all o) : binds o j ∨ (pureOp p.op = false ∧ binds p i) := by
  have := pair_ok h hi hj
  have ha : (opArgs o ++ guardTmp all o).any (isTmp d) = true := any_isTmp hl
  simp only [pairOK, beq_false hne, cond_false, hd, ha, Bool.not_true, Bool.false_or, Bool.and_eq_true, Bool.or_eq_true, edgeTo_iff, Bool.not_eq_true'] at this
  exact this.2
theorem pair_self {all : List Oper} (h : pairsOK all = true) {i : Nat} {o : Oper} {d : Nat} (hi : all[i]? = some o) (hp : pureOp o.op = true) (hd : o.dst = some d) : Operand.tmp d ∉ looks all o := by
  have := pair_ok h hi hi
  simp only [pairOK, beq_iff.2 rfl, cond_true, hp, hd, Bool.not_true, Bool.false_or, Bool.not_eq_true'] at this
  intro hl
  have ha : (opArgs o ++ guardTmp all o).any (isTmp d) = true := any_isTmp hl
  rw [ha] at this
  cases this

/-- one operation is carried out, or passed over -/
def StepV (ty : Types) (cx : Nat → Inst) (call : (j : Nat) → (cx j).args.den → Option (cx j).res) (calls : List (Nat × Nat)) (all : List Oper) (i : Nat) (o : Oper) (s r : St) : Prop :=
  (o.guard = none ∧ (opQ ty cx call calls i o s).Is r) ∨ ∃ j want t b, o.guard = some (j, want) ∧ (all[j]?).bind (·.dst) = some t ∧ Gd s t b ∧ ((b = some want ∧ (opQ ty cx call calls i o s).Is r) ∨ (b ≠ some want ∧ r = skipO o s))
theorem guard_look {all : List Oper} {o : Oper} {j : Nat} {want : Bool} {t : Nat} (hg : o.guard = some (j, want)) (ht : (all[j]?).bind (·.dst) = some t) : Operand.tmp t ∈ looks all o := by
  simp only [looks, guardTmp, hg, ht, List.mem_append]
  exact .inr (by simp)

/-- what is known of the order in which the operations were taken -/
inductive Stat (all : List Oper) : List Nat → List Nat → Option (List Nat) → Prop
  | nil {done win} : Stat all [] done win
  | cons {i r done win o} : all[i]? = some o → turnOK done win o = true → Stat all r (i :: done) (bif pureOp o.op then win.map (i :: ·) else some [i]) → Stat all (i :: r) done win
theorem drawK_stat {A : Type} {calls : List (Nat × Nat)} {all : List Oper} {K : St → Option A} {x : A} : ∀ {ord done : List Nat} {win : Option (List Nat)} {wt : List (Nat × List Nat)} {s : St}, drawK ty cx call calls all K ord done win wt s = some x → Stat all ord done win := by
  intro ord
  induction ord with
  | nil => intros; exact .nil
  | cons i r ih =>
    intro done win wt s h
    simp only [drawK] at h
    cases ho : all[i]? with
    | none => rw [ho] at h; cases h
    | some o =>
      rw [ho] at h
      simp only at h
      cases ht : turnOK done win o with
      | false => rw [ht] at h; cases h
      | true =>
        rw [ht] at h
        simp only [cond_true] at h
        refine .cons ho ht ?_
        cases hp : pureOp o.op with
        | true =>
          rw [hp] at h
          simp only [cond_true] at h ⊢
          have run : ∀ {s}, ((noFrz s o.op).run fun _ => (opQ ty cx call calls i o s).run fun s' => drawK ty cx call calls all K r (i :: done) (win.map (i :: ·)) ((i, refsOf s s' o) :: wt) s') = some x → Stat all r (i :: done) (win.map (i :: ·)) := by
            intro s h
            obtain ⟨_, _, h⟩ := Q.run_some.1 h
            obtain ⟨_, _, h⟩ := Q.run_some.1 h
            exact ih h
          rcases guarded_is h with ⟨_, h⟩ | ⟨_, _, _, _, s1, _, _, _, _, ⟨_, h⟩ | ⟨_, h⟩⟩
          · exact run h
          · exact run h
          · exact ih h
        | false =>
          rw [hp] at h
          simp only [cond_false] at h ⊢
          have run : ∀ {s wt}, ((opQ ty cx call calls i o s).run fun s' => bif wt.all (fun w => w.2.all (clean s') && moveOK all s s' w.1) then drawK ty cx call calls all K r (i :: done) (some [i]) wt s' else none) = some x → Stat all r (i :: done) (some [i]) := by
            intro s wt h
            obtain ⟨s', _, h⟩ := Q.run_some.1 h
            cases hc : wt.all (fun w => w.2.all (clean s') && moveOK all s s' w.1) with
            | false => rw [hc] at h; cases h
            | true => rw [hc] at h; exact ih h
          rcases guarded_is h with ⟨_, h⟩ | ⟨_, _, _, _, s1, _, _, _, _, ⟨_, h⟩ | ⟨_, h⟩⟩
          · exact run h
          · exact run h
          · exact ih h
theorem turn_edges {done : List Nat} {win : Option (List Nat)} {o : Oper} (h : turnOK done win o = true) : ∀ j, binds o j → j ∈ done := by
  intro j ⟨e, he, hb, hj⟩
  simp only [turnOK, Bool.and_eq_true, List.all_eq_true] at h
  have := h.1 e (by simpa using he)
  rw [hb] at this
  subst hj
  exact hasN_iff.1 (by simpa using this)
/-- who comes behind an operation that writes waits for it -/
theorem stat_waits {all : List Oper} {D : Nat → Prop} : ∀ {r done : List Nat} {w : List Nat}, Stat all r done (some w) → w ≠ [] → (∀ j, j ∈ w → ¬ D j) → (∀ j, j ∈ r → ¬ D j) → ∀ i, i ∈ r → ∃ o j, all[i]? = some o ∧ binds o j ∧ ¬ D j := by
  intro r
  induction r with
  | nil => intro done w _ _ _ _ i hi; cases hi
  | cons k r ih =>
    intro done w h hne hw hr i hi
    cases h with
    | cons ho ht hs =>
      rename_i o
      have hk : ∃ j, binds o j ∧ ¬ D j := by
        simp only [turnOK, Bool.and_eq_true, List.any_eq_true] at ht
        obtain ⟨j, hj, e⟩ := ht.2
        exact ⟨j, edgeTo_iff.1 e, hw j hj⟩
      rcases List.mem_cons.1 hi with rfl | hi
      · obtain ⟨j, h1, h2⟩ := hk
        exact ⟨o, j, ho, h1, h2⟩
      · have hkD : ¬ D k := hr k List.mem_cons_self
        cases hp : pureOp o.op with
        | true =>
          rw [hp] at hs
          simp only [cond_true, Option.map_some] at hs
          exact ih hs (by simp) (fun j hj => by rcases List.mem_cons.1 hj with rfl | hj; exact hkD; exact hw j hj) (fun j hj => hr j (List.mem_cons_of_mem _ hj)) i hi
        | false =>
          rw [hp] at hs
          simp only [cond_false] at hs
          exact ih hs (by simp) (fun j hj => by rcases List.mem_cons.1 hj with rfl | hj; exact hkD; cases hj) (fun j hj => hr j (List.mem_cons_of_mem _ hj)) i hi
/-- each waits for earlier ones alone -/
def Lin (all : List Oper) : List Nat → Prop
  | [] => True
  | i :: r => (∀ o, all[i]? = some o → ∀ j, binds o j → j ∈ r) ∧ Lin all r
/-- an operation that waits to come up, of which the run knows what it tells -/
def Pend (ty : Types) (cx : Nat → Inst) (call : (j : Nat) → (cx j).args.den → Option (cx j).res) (calls : List (Nat × Nat)) (all : List Oper) (wt : List (Nat × List Nat)) (i : Nat) (o : Oper) (s : St) : Prop :=
  (∃ j want t b, o.guard = some (j, want) ∧ (all[j]?).bind (·.dst) = some t ∧ Gd s t b ∧ b ≠ some want ∧ ∀ d, o.dst = some d → s.get d = .tup []) ∨
  (∃ refs d v, (i, refs) ∈ wt ∧ (o.guard = none ∨ ∃ j want t b, o.guard = some (j, want) ∧ (all[j]?).bind (·.dst) = some t ∧ Gd s t b ∧ b = some want) ∧ o.dst = some d ∧ s.get d = v ∧ d < s.n ∧
    (isMove o.op = true ∨ ∀ x, x ∈ opArgs o → ∀ h, h ∈ evRefs (s.ev x) → h ∈ refs) ∧ (isMove o.op = true ∨ ∀ h, h ∈ evRefs v → h ∈ refs) ∧
      ∀ s', s'.n = s.n → (∀ x, x ∈ opArgs o → s'.ev x = s.ev x) → (∀ h, h ∈ refs → s'.home? h = s.home? h) → (opQ ty cx call calls i o s').Is (s'.set d v))
/-- what waits is told by another state as well that is like this one where it matters -/
theorem Pend.move {calls : List (Nat × Nat)} {all : List Oper} {wt wt' : List (Nat × List Nat)} {i : Nat} {o : Oper} {s s' : St} (h : Pend ty cx call calls all wt i o s) (hn : s'.n = s.n) (hev : ∀ x, x ∈ looks all o → (∀ g, (∀ refs, (i, refs) ∈ wt → g ∈ evRefs (s.ev x) → g ∈ refs) → True) → s'.ev x = s.ev x)
    (hd : ∀ d, o.dst = some d → s'.get d = s.get d) (hh : ∀ refs, (i, refs) ∈ wt → ∀ g, g ∈ refs → s'.home? g = s.home? g) (hw : ∀ refs, (i, refs) ∈ wt → (i, refs) ∈ wt') : Pend ty cx call calls all wt' i o s' := by
  have hb : ∀ {j : Nat} {want : Bool} {t : Nat} {b : Option Bool}, o.guard = some (j, want) → (all[j]?).bind (·.dst) = some t → Gd s t b → Gd s' t b := fun hg ht hq => by
    exact hq.c (hev _ (guard_look hg ht) fun _ _ => trivial)
  rcases h with ⟨j, want, t, b, h1, h2, h3, h4, h5⟩ | ⟨refs, d, v, h0, h1, h2, h3, hdn, h4, h5, h6⟩
  · exact .inl ⟨j, want, t, b, h1, h2, hb h1 h2 h3, h4, fun d e => by rw [hd d e]; exact h5 d e⟩
  · have hev' : ∀ x, x ∈ opArgs o → s'.ev x = s.ev x := fun x hx => hev x (List.mem_append_left _ hx) fun _ _ => trivial
    exact .inr ⟨refs, d, v, hw refs h0, h1.imp id fun ⟨j, want, t, b, a1, a2, a3, a4⟩ => ⟨j, want, t, b, a1, a2, hb a1 a2 a3, a4⟩, h2, by rw [hd d h2]; exact h3, by rw [hn]; exact hdn, h4.imp id fun h4 x hx g hg => h4 x hx g (by rwa [hev' x hx] at hg), h5,
      fun s2 l1 l2 l3 => h6 s2 (l1.trans hn) (fun x hx => (l2 x hx).trans (hev' x hx)) fun g hg => (l3 g hg).trans (hh refs h0 g hg)⟩
/-- a copy looks at no home -/
theorem move_any {calls : List (Nat × Nat)} {i : Nat} {o : Oper} {s : St} {d : Nat} {v : EV} (hm : isMove o.op = true) (hd : o.dst = some d) (hlt : d < s.n) (hq : (opQ ty cx call calls i o s).Is (s.set d v)) :
    ∀ s', s'.n = s.n → (∀ x, x ∈ opArgs o → s'.ev x = s.ev x) → (opQ ty cx call calls i o s').Is (s'.set d v) := by
  obtain ⟨dst, op, T0, pos, aft, grd⟩ := o
  simp only at hm hd
  subst hd
  cases op <;> simp only [isMove, Bool.false_eq_true] at hm
  rename_i x
  intro s' h1 h2
  simp only [opQ, Q.is_bind', op1Q, Q.is_ret] at hq ⊢
  obtain ⟨d', hd', e⟩ := hq
  have hdd : d' = d := by have := (dstQ_is hd').1; simp at this; exact this.symm
  subst hdd
  have hv : s.ev x = v := by have := congrArg (fun s => s.get d') e; simpa [get_set] using this
  refine ⟨d', ?_, by rw [h2 x (by simp [opArgs]), hv]⟩
  simp only [dstQ, Q.is_bind', Q.is_must, Q.is_pure]; exact ⟨(), by rw [h1]; simpa [Nat.blt_eq] using hlt, trivial⟩
theorem sameRef_is {e e' : EV} (h : sameRef e e' = true) : evRefs e = [] ∨ e' = e := by
  simp only [sameRef, Bool.or_eq_true, List.isEmpty_iff] at h
  exact h.imp id fun h => (eqEV_eq h).symm
end Go.VM
/- Soundness, draws, part 5: whatever order is drawn. -/
namespace Go.VM
variable {P : Program} {ty : Types}
variable {cx : Nat → Inst} {call : (j : Nat) → (cx j).args.den → Option (cx j).res}

def Inl (listed : Array Bool) (j : Nat) : Prop := listed.getD j false = true
theorem Inl.set {listed : Array Bool} {i j : Nat} (hi : i < listed.size) : Inl (listed.setIfInBounds i true) j ↔ j = i ∨ Inl listed j := by
  simp only [Inl, Array.getD_eq_getD_getElem?]
  by_cases e : i = j
  · subst e; simp [hi]
  · rw [Array.getElem?_setIfInBounds_ne e]
    constructor
    · exact .inr
    · rintro (rfl | h)
      · exact absurd rfl e
      · exact h
theorem ready_is {ops : Array Oper} {listed : Array Bool} {i : Nat} (hz : listed.size = ops.size) : i ∈ Region.ready .any ops listed ↔ ¬ Inl listed i ∧ ∃ o, ops.toList[i]? = some o ∧ ∀ j, binds o j → Inl listed j := by
  rw [mem_ready]
  constructor
  · rintro ⟨h0, o, ho, h⟩
    have hlt : i < listed.size := by rw [hz]; exact (Array.getElem?_eq_some_iff.1 ho).1
    refine ⟨fun c => ?_, o, by rw [Array.getElem?_toList]; exact ho, fun j ⟨e, he, hb, hj⟩ => by subst hj; exact h e he hb⟩
    simp only [Inl] at c
    simp [hlt] at h0 c
    rw [h0] at c; cases c
  · rintro ⟨h0, o, ho, h⟩
    rw [Array.getElem?_toList] at ho
    have hlt : i < listed.size := by rw [hz]; exact (Array.getElem?_eq_some_iff.1 ho).1
    refine ⟨?_, o, ho, fun e he hb => h e.on ⟨e, he, hb, rfl⟩⟩
    simp only [Inl] at h0
    simp [hlt] at h0 ⊢
    exact h0
theorem lin_in {all : List Oper} {j : Nat} {o : Oper} {k : Nat} (ho : all[j]? = some o) (hb : binds o k) : ∀ {l : List Nat}, Lin all l → j ∈ l → k ∈ l := by
  intro l
  induction l with
  | nil => intro _ h; cases h
  | cons i r ih =>
    intro ⟨h1, h2⟩ hj
    rcases List.mem_cons.1 hj with e | hj
    · subst e; exact List.mem_cons_of_mem _ (h1 o ho k hb)
    · exact List.mem_cons_of_mem _ (ih h2 hj)
theorem lin_ready {all : List Oper} {D : Nat → Prop} : ∀ {l : List Nat}, Lin all l → (∀ j, j ∈ l → ∃ o, all[j]? = some o) → (∃ j, j ∈ l ∧ ¬ D j) → ∃ j o, j ∈ l ∧ all[j]? = some o ∧ ¬ D j ∧ ∀ k, binds o k → D k := by
  intro l
  induction l with
  | nil => intro _ _ ⟨j, h, _⟩; cases h
  | cons i r ih =>
    intro ⟨h1, h2⟩ hv hx
    by_cases hr : ∃ j, j ∈ r ∧ ¬ D j
    · obtain ⟨j, o, a, b⟩ := ih h2 (fun j hj => hv j (List.mem_cons_of_mem _ hj)) hr
      exact ⟨j, o, List.mem_cons_of_mem _ a, b⟩
    · obtain ⟨j, hj, hd⟩ := hx
      rcases List.mem_cons.1 hj with e | hj
      · subst e
        obtain ⟨o, ho⟩ := hv j List.mem_cons_self
        exact ⟨j, o, List.mem_cons_self, ho, hd, fun k hb => Classical.byContradiction fun c => hr ⟨k, h1 o ho k hb, c⟩⟩
      · exact absurd ⟨j, hj, hd⟩ hr

/-- an order that is drawn stands behind the run by one window -/
structure DrInv (ty : Types) (cx : Nat → Inst) (call : (j : Nat) → (cx j).args.den → Option (cx j).res) (calls : List (Nat × Nat)) (all : List Oper) (rest done : List Nat) (win : Option (List Nat)) (wt : List (Nat × List Nat)) (σ : St) (D : Nat → Prop) (s : St) : Prop where
  sub : ∀ j, D j → j ∈ done
  imp : ∀ j o, j ∈ done → all[j]? = some o → pureOp o.op = false → D j
  closed : ∀ j o k, D j → all[j]? = some o → binds o k → D k
  n : s.n = σ.n
  home : ∀ h, s.home? h = σ.home? h
  get : ∀ x, (∃ j o, all[j]? = some o ∧ pureOp o.op = true ∧ ¬ D j ∧ o.dst = some x) ∨ s.get x = σ.get x
  pend : ∀ i o, i ∈ done → ¬ D i → all[i]? = some o → Pend ty cx call calls all wt i o σ
  lin : Lin all done
  nodup : (rest ++ done).Nodup
  stat : Stat all rest done win
  every : ∀ j o, all[j]? = some o → j ∈ rest ∨ j ∈ done
  valid : ∀ j, j ∈ done → ∃ o, all[j]? = some o
theorem ev_like {all : List Oper} {σ s : St} {D : Nat → Prop} {o : Oper} (hget : ∀ x, (∃ j o, all[j]? = some o ∧ pureOp o.op = true ∧ ¬ D j ∧ o.dst = some x) ∨ s.get x = σ.get x)
    (hno : ∀ x j p, Operand.tmp x ∈ looks all o → all[j]? = some p → pureOp p.op = true → p.dst = some x → D j) : ∀ x, x ∈ looks all o → s.ev x = σ.ev x := by
  intro x hx
  cases x with
  | tmp t =>
    rcases hget t with ⟨j, p, h1, h2, h3, h4⟩ | h
    · exact absurd (hno t j p hx h1 h2 h4) h3
    · exact h
  | _ => rfl
/-- a further operation that only reads -/
theorem DrInv.pure {A : Type} {calls : List (Nat × Nat)} {all : List Oper} {K : St → Option A} {v : A} (hpairs : pairsOK all = true) {i : Nat} {r done : List Nat} {win : Option (List Nat)} {wt : List (Nat × List Nat)} {σ s : St} {D : Nat → Prop} {o : Oper} (ho : all[i]? = some o) (hp : pureOp o.op = true)
    (h : DrInv ty cx call calls all (i :: r) done win wt σ D s) (hk : drawK ty cx call calls all K (i :: r) done win wt σ = some v) :
    ∃ win' wt' σ', DrInv ty cx call calls all r (i :: done) win' wt' σ' D s ∧ drawK ty cx call calls all K r (i :: done) win' wt' σ' = some v := by
  have hnd : i ∉ done := fun c => by
    have := h.nodup
    rw [List.cons_append, List.nodup_cons] at this
    exact this.1 (List.mem_append_right _ c)
  have hiD : ¬ D i := fun c => hnd (h.sub i c)
  have hst := h.stat
  cases hst with
  | cons ho' ht hs =>
  rw [ho] at ho'; cases ho'
  rw [hp] at hs
  simp only [cond_true] at hs
  -- what holds of the state behind, for whatever is waited for
  have key : ∀ (σ1 : St) (wt' : List (Nat × List Nat)), σ1.n = σ.n → (∀ h, σ1.home? h = σ.home? h) → (∀ x, o.dst ≠ some x → σ1.get x = σ.get x) → (∀ q, q ∈ wt → q ∈ wt') → Pend ty cx call calls all wt' i o σ1 → DrInv ty cx call calls all r (i :: done) (win.map (i :: ·)) wt' σ1 D s := by
    intro σ1 wt' hn hh hg hw hpd
    refine ⟨fun j hj => List.mem_cons_of_mem _ (h.sub j hj), fun j p hj hjp hpp => ?_, h.closed, h.n.trans hn.symm, fun g => (h.home g).trans (hh g).symm, fun x => ?_, fun j p hj hjD hjp => ?_, ⟨fun p hp2 k hb => ?_, h.lin⟩, ?_, hs, fun j p hjp => ?_, fun j hj => ?_⟩
    · rcases List.mem_cons.1 hj with e | hj
      · subst e; rw [ho] at hjp; cases hjp; rw [hp] at hpp; cases hpp
      · exact h.imp j p hj hjp hpp
    · by_cases hx : o.dst = some x
      · exact .inl ⟨i, o, ho, hp, hiD, hx⟩
      · rw [hg x hx]; exact h.get x
    · rcases List.mem_cons.1 hj with e | hj
      · subst e; rw [ho] at hjp; cases hjp; exact hpd
      · have hne : j ≠ i := fun e => hnd (e ▸ hj)
        refine (h.pend j p hj hjD hjp).move hn (fun x hx _ => ?_) (fun d hd => ?_) (fun refs hr g hg2 => hh g) (fun refs hr => hw _ hr)
        · cases x with
          | tmp t =>
            refine hg t fun hd => ?_
            rcases pair_look hpairs hjp ho hne hd hx with hb | ⟨c, _⟩
            · exact hnd (lin_in hjp hb h.lin hj)
            · rw [hp] at c; cases c
          | _ => rfl
        · exact hg d fun hd2 => pair_dst hpairs hjp ho hne hd hd2 rfl
    · rw [ho] at hp2; cases hp2; exact turn_edges ht k hb
    · have := h.nodup
      rw [List.cons_append] at this
      exact (List.perm_middle.nodup_iff).2 this
    · rcases h.every j p hjp with h1 | h1
      · rcases List.mem_cons.1 h1 with e | h1
        · exact .inr (e ▸ List.mem_cons_self)
        · exact .inl h1
      · exact .inr (List.mem_cons_of_mem _ h1)
    · rcases List.mem_cons.1 hj with e | hj
      · subst e; exact ⟨o, ho⟩
      · exact h.valid j hj
  simp only [drawK, ho, ht, hp, cond_true] at hk
  have self : ∀ d, o.dst = some d → Operand.tmp d ∉ looks all o := fun d hd => pair_self hpairs ho hp hd
  have run : ∀ {σ0 : St}, Ext σ σ0 → (o.guard = none ∨ ∃ j want t b, o.guard = some (j, want) ∧ (all[j]?).bind (·.dst) = some t ∧ Gd σ t b ∧ b = some want) →
      ((noFrz σ0 o.op).run fun _ => (opQ ty cx call calls i o σ0).run fun s' => drawK ty cx call calls all K r (i :: done) (win.map (i :: ·)) ((i, refsOf σ0 s' o) :: wt) s') = some v →
      ∃ win' wt' σ', DrInv ty cx call calls all r (i :: done) win' wt' σ' D s ∧ drawK ty cx call calls all K r (i :: done) win' wt' σ' = some v := by
    intro σ0 he hgd hk
    obtain ⟨u, hf, hk⟩ := Q.run_some.1 hk
    obtain ⟨σ1, hq, hk⟩ := Q.run_some.1 hk
    obtain ⟨d, vv, h1, hlt, h2, h3⟩ := opQ_pure hp hf hq
    subst h2
    refine ⟨_, _, _, key (σ0.set d vv) ((i, refsOf σ0 (σ0.set d vv) o) :: wt) he.n he.home (fun x hx => ?_) (fun q hq => List.mem_cons_of_mem _ hq) (.inr ⟨_, d, vv, List.mem_cons_self, ?_, h1, by rw [get_set, if_pos rfl], ?_, ?_, ?_, ?_⟩), hk⟩
    · rw [get_set, if_neg (fun c => hx (by rw [h1, c]))]; exact he.get x
    · refine hgd.imp id fun ⟨j, want, t, b, a1, a2, a3, a4⟩ => ⟨j, want, t, b, a1, a2, ?_, a4⟩
      have hne : d ≠ t := fun c => self d h1 (by rw [c]; exact guard_look a1 a2)
      have : (σ0.set d vv).ev (.tmp t) = σ.ev (.tmp t) := (get_set ..).trans ((if_neg hne).trans (he.get t))
      exact a3.c this
    · exact hlt
    · cases hm : isMove o.op with
      | true => exact .inl rfl
      | false =>
        refine .inr fun x hx g hg => ?_
        have : (σ0.set d vv).ev x = σ0.ev x := by
          cases x with
          | tmp t => exact (get_set ..).trans (if_neg fun c => self d h1 (by rw [c]; exact List.mem_append_left _ hx))
          | _ => rfl
        rw [this] at hg
        simp only [refsOf, hm, cond_false, List.mem_append, List.mem_flatMap]
        exact .inl ⟨x, hx, hg⟩
    · cases hm : isMove o.op with
      | true => exact .inl rfl
      | false =>
        refine .inr fun g hg => ?_
        simp only [refsOf, hm, cond_false, h1, List.mem_append]
        exact .inr (by rw [get_set, if_pos rfl]; exact hg)
    · intro s' l1 l2 l3
      have hev : ∀ x, x ∈ opArgs o → (σ0.set d vv).ev x = σ0.ev x := fun x hx => by
        cases x with
        | tmp t => exact (get_set ..).trans (if_neg fun c => self d h1 (by rw [c]; exact List.mem_append_left _ hx))
        | _ => rfl
      cases hm : isMove o.op with
      | true => exact move_any hm h1 hlt hq s' l1 fun x hx => (l2 x hx).trans (hev x hx)
      | false =>
        refine h3 s' ⟨l1, fun x hx => (l2 x hx).trans (hev x hx), fun x a g hx hx2 hg => l3 g ?_⟩
        simp only [refsOf, hm, cond_false, List.mem_append, List.mem_flatMap]
        exact .inl ⟨x, hx, by rw [hx2]; exact hg⟩
  rcases guarded_is hk with ⟨hg, hk⟩ | ⟨j, want, t, b, σ0, hg, ht2, hb, he, ⟨hbw, hk⟩ | ⟨hbw, hk⟩⟩
  · exact run (.refl σ) (.inl hg) hk
  · exact run he (.inr ⟨j, want, t, b, hg, ht2, hb, hbw⟩) hk
  · have hsk : ∀ x, (skipO o σ0).get x = if o.dst = some x then .tup [] else σ.get x := fun x => by rw [skip_get, he.get]
    refine ⟨_, _, _, key (skipO o σ0) wt ?_ (fun h => by rw [skip_hm]; exact he.home h) (fun x hx => by rw [hsk, if_neg hx]) (fun q hq => hq) (.inl ⟨j, want, t, b, hg, ht2, ?_, hbw, fun d hd => by rw [hsk, if_pos hd]⟩), hk⟩
    · rw [show (skipO o σ0).n = σ0.n by unfold skipO; cases o.dst <;> rfl]; exact he.n
    · exact hb.c (by rw [hsk, if_neg (fun c => self t c (guard_look hg ht2))])

theorem LocD_ext {L : List Operand} {d : Option Nat} {s s0 r : St} {F : St → St → Prop} (he : Ext s s0) (h : LocD L d s0 r F) : LocD L d s r F := by
  obtain ⟨m, κ, k, g, e⟩ := h
  exact ⟨he.mild.trans m, κ, k, fun x hx => by rw [g x hx, he.get], fun s' a b c => e s' (a.trans he.n.symm) (fun h => (b h).trans (he.home h).symm) fun o ho => (c o ho).trans (by
    cases o with
    | tmp t => exact (he.get t).symm
    | _ => rfl)⟩
/-- what an operation that writes does to the slots and homes, here and in any state that is like this one -/
theorem step_loc {calls : List (Nat × Nat)} {all : List Oper} {i : Nat} {o : Oper} {σ r : St} (hp : pureOp o.op = false) (h : StepV ty cx call calls all i o σ r) :
    LocD (looks all o) o.dst σ r (fun s' r' => StepV ty cx call calls all i o s' r') := by
  have run : (opQ ty cx call calls i o σ).Is r → LocD (looks all o) o.dst σ r (fun s' r' => (opQ ty cx call calls i o s').Is r') := fun h => (opQ_loc hp h).sub fun x hx => List.mem_append_left _ hx
  rcases h with ⟨hg, hq⟩ | ⟨j, want, t, b, hg, ht, hb, ⟨hbw, hq⟩ | ⟨hbw, hq⟩⟩
  · exact (run hq).mono fun s' r' _ _ _ e => .inl ⟨hg, e⟩
  · exact (run hq).mono fun s' r' _ _ c e => .inr ⟨j, want, t, b, hg, ht, hb.c (c _ (guard_look hg ht)), .inl ⟨hbw, e⟩⟩
  · subst hq
    refine ⟨skip_mild, id, .id, fun x hx => by rw [skip_get, if_neg hx, EV.map_id], fun s' a b2 c => ⟨skipO o s', .inr ⟨j, want, t, b, hg, ht, hb.c (c _ (guard_look hg ht)), .inr ⟨hbw, rfl⟩⟩, ?_, fun h => by rw [skip_hm, skip_hm, b2], fun x hx => by rw [skip_get, skip_get, if_pos hx, if_pos hx], fun x hx => by rw [skip_get, if_neg hx, EV.map_id]⟩⟩
    have : ∀ s : St, (skipO o s).n = s.n := fun s => by unfold skipO; cases o.dst <;> rfl
    rw [this, this, a]
theorem StepV.ext {calls : List (Nat × Nat)} {all : List Oper} {i : Nat} {o : Oper} {σ σ0 r : St} (hp : pureOp o.op = false) (he : Ext σ σ0) (hq : (opQ ty cx call calls i o σ0).Is r) : LocD (opArgs o) o.dst σ r (fun s' r' => (opQ ty cx call calls i o s').Is r') := LocD_ext he (opQ_loc hp hq)

/-- an operation that writes, here and in the run -/
theorem DrInv.write {A : Type} {calls : List (Nat × Nat)} {all : List Oper} {K : St → Option A} {v : A} (hpairs : pairsOK all = true) {q : Nat} {r done : List Nat} {win : Option (List Nat)} {wt : List (Nat × List Nat)} {σ s : St} {D : Nat → Prop} {o : Oper} (ho : all[q]? = some o) (hp : pureOp o.op = false)
    (h : DrInv ty cx call calls all (q :: r) done win wt σ D s) (hD : ∀ j, binds o j → D j) (hk : drawK ty cx call calls all K (q :: r) done win wt σ = some v) :
    ∃ wt' σ' s', StepV ty cx call calls all q o s s' ∧ DrInv ty cx call calls all r (q :: done) (some [q]) wt' σ' (fun j => j = q ∨ D j) s' ∧ drawK ty cx call calls all K r (q :: done) (some [q]) wt' σ' = some v := by
  have hnd : q ∉ done := fun c => by
    have := h.nodup
    rw [List.cons_append, List.nodup_cons] at this
    exact this.1 (List.mem_append_right _ c)
  have hst := h.stat
  cases hst with
  | cons ho' ht hs =>
  rw [ho] at ho'; cases ho'
  rw [hp] at hs
  simp only [cond_false] at hs
  simp only [drawK, ho, ht, hp, cond_true, cond_false] at hk
  have hlook : ∀ x, x ∈ looks all o → s.ev x = σ.ev x := ev_like h.get fun x j p hx hj hpp hd => by
    by_cases e : q = j
    · subst e; rw [ho] at hj; cases hj; rw [hp] at hpp; cases hpp
    · rcases pair_look hpairs ho hj e hd hx with hb | ⟨c, _⟩
      · exact hD j hb
      · rw [hpp] at c; cases c
  -- the step, and what it leaves of what waits
  have key : ∀ (σ1 : St), LocD (looks all o) o.dst σ σ1 (fun s' r' => StepV ty cx call calls all q o s' r') → ((wt.filter fun w => !edgeBy all done o w.1).all (fun w => w.2.all (clean σ1) && moveOK all σ σ1 w.1) = true ∨ ∀ x, o.dst ≠ some x → σ1.get x = σ.get x) → (∀ h, (wt.filter fun w => !edgeBy all done o w.1).all (fun w => w.2.all (clean σ1) && moveOK all σ σ1 w.1) = true ∨ σ1.home? h = σ.home? h) →
      drawK ty cx call calls all K r (q :: done) (some [q]) (wt.filter fun w => !edgeBy all done o w.1) σ1 = some v →
      ∃ wt' σ' s', StepV ty cx call calls all q o s s' ∧ DrInv ty cx call calls all r (q :: done) (some [q]) wt' σ' (fun j => j = q ∨ D j) s' ∧ drawK ty cx call calls all K r (q :: done) (some [q]) wt' σ' = some v := by
    intro σ1 ⟨m, κ, hκ, g1, back⟩ hcl hcl2 hk
    obtain ⟨s1, hstep, n1, h1, y1, x1⟩ := back s h.n h.home hlook
    refine ⟨_, σ1, s1, hstep, ⟨fun j hj => ?_, fun j p hj hjp hpp => ?_, fun j p k hj hjp hb => ?_, n1, h1, fun x => ?_, fun j p hj hjD hjp => ?_, ⟨fun p hp2 k hb => ?_, h.lin⟩, ?_, hs, fun j p hjp => ?_, fun j hj => ?_⟩, hk⟩
    · rcases hj with e | hj
      · exact e ▸ List.mem_cons_self
      · exact List.mem_cons_of_mem _ (h.sub j hj)
    · rcases List.mem_cons.1 hj with e | hj
      · exact .inl e
      · exact .inr (h.imp j p hj hjp hpp)
    · rcases hj with e | hj
      · subst e; rw [ho] at hjp; cases hjp; exact .inr (hD k hb)
      · exact .inr (h.closed j p k hj hjp hb)
    · by_cases hx : o.dst = some x
      · exact .inr (y1 x hx)
      · rcases h.get x with ⟨j, p, a1, a2, a3, a4⟩ | e
        · exact .inl ⟨j, p, a1, a2, fun c => c.elim (fun e => by subst e; rw [ho] at a1; cases a1; rw [hp] at a2; cases a2) a3, a4⟩
        · exact .inr (by rw [x1 x hx, g1 x hx, e])
    · have hjq : j ≠ q := fun e => hjD (.inl e)
      have hjD' : ¬ D j := fun c => hjD (.inr c)
      have hjd : j ∈ done := (List.mem_cons.1 hj).resolve_left hjq
      have hno : edgeBy all done o j = false := by
        cases e : edgeBy all done o j with
        | false => rfl
        | true =>
          exact absurd (edgeBy_is e hD fun k p2 m a b c => h.closed k p2 m a b c) hjD'
      have hP := h.pend j p hjd hjD' hjp
      have hdl : ∀ x, Operand.tmp x ∈ looks all p → o.dst ≠ some x := fun x hx hd => by
        rcases pair_look hpairs hjp ho hjq hd hx with hb | ⟨_, hb⟩
        · exact hnd (lin_in hjp hb h.lin hjd)
        · exact hjD' (hD j hb)
      have hdd : ∀ d, p.dst = some d → o.dst ≠ some d := fun d hd hd2 => pair_dst hpairs hjp ho hjq hd hd2 rfl
      have hb : ∀ {k : Nat} {want : Bool} {t : Nat} {b : Option Bool}, p.guard = some (k, want) → (all[k]?).bind (·.dst) = some t → Gd σ t b → Gd σ1 t b := fun hg ht hq => by
        have hg2 := g1 _ (hdl _ (guard_look hg ht))
        refine hq.c (hg2.trans ?_)
        rename_i b
        cases b with
        | none => rw [show σ.get _ = _ from hq]; rfl
        | some b => rw [show σ.get _ = _ from boolQ_is.1 hq]; simp only [EV.map]; rw [hκ.pv rfl]
      rcases hP with ⟨k, want, t, b, a1, a2, a3, a4, a5⟩ | ⟨refs, d, vv, a0, a1, a2, a3, adn, a4, a5, a6⟩
      · refine .inl ⟨k, want, t, b, a1, a2, hb a1 a2 a3, a4, fun d hd => ?_⟩
        rw [g1 d (hdd d hd), a5 d hd]
        rfl
      · have hin : (j, refs) ∈ wt.filter fun w => !edgeBy all done o w.1 := List.mem_filter.2 ⟨a0, by simp [hno]⟩
        have stay : ∀ e : EV, (∀ g, g ∈ evRefs e → g ∈ refs) → ∀ x, o.dst ≠ some x → σ.get x = e → σ1.get x = e := by
          intro e he x hx hxe
          rcases hcl with hcl | hcl
          · rw [g1 x hx, hxe]
            refine hκ.fix fun g hg => ?_
            have := List.all_eq_true.1 hcl _ hin
            rw [Bool.and_eq_true] at this
            exact List.all_eq_true.1 this.1 g (he g hg)
          · rw [hcl x hx, hxe]
        have stayM : ∀ x, o.dst ≠ some x → (sameRef (σ.get x) (σ1.get x) = true ∨ ∀ x, o.dst ≠ some x → σ1.get x = σ.get x) → σ1.get x = σ.get x := by
          intro x hx h
          rcases h with h | h
          · rcases sameRef_is h with h | h
            · rw [g1 x hx]
              exact hκ.fix fun g hg => by rw [h] at hg; cases hg
            · exact h
          · exact h x hx
        have hmv : isMove p.op = true → ((∀ x, x ∈ opArgs p → sameRef (σ.ev x) (σ1.ev x) = true) ∧ sameRef (σ.get d) (σ1.get d) = true) ∨ ∀ x, o.dst ≠ some x → σ1.get x = σ.get x := fun hm => by
          refine hcl.imp (fun hcl => ?_) id
          have := List.all_eq_true.1 hcl _ hin
          rw [Bool.and_eq_true] at this
          have := this.2
          simp only [moveOK, hjp, hm, cond_true, a2, Bool.and_eq_true, List.all_eq_true] at this
          exact this
        have hev : ∀ x, x ∈ opArgs p → σ1.ev x = σ.ev x := fun x hx => by
          cases x with
          | tmp t =>
            have hne := hdl t (List.mem_append_left _ hx)
            rcases a4 with hm | a4
            · exact stayM t hne ((hmv hm).imp (fun h => h.1 _ hx) id)
            · exact stay _ (fun g hg => a4 _ hx g hg) t hne rfl
          | _ => rfl
        have hgetd : σ1.get d = vv := by
          rcases a5 with hm | a5
          · exact (stayM d (hdd d a2) ((hmv hm).imp (fun h => h.2) id)).trans a3
          · exact stay vv a5 d (hdd d a2) a3
        have hhome : ∀ g, g ∈ refs → σ1.home? g = σ.home? g := fun g hg => by
          rcases hcl2 g with hcl | e
          · have := List.all_eq_true.1 hcl _ hin
            rw [Bool.and_eq_true] at this
            have := List.all_eq_true.1 this.1 g hg
            obtain ⟨H, c1, c2⟩ := clean_iff.1 this
            rw [c1, m.keep g H c1 c2]
          · exact e
        exact .inr ⟨refs, d, vv, hin, a1.imp id fun ⟨k, want, t, b, b1, b2, b3, b4⟩ => ⟨k, want, t, b, b1, b2, hb b1 b2 b3, b4⟩, a2, hgetd, by rw [m.n]; exact adn, a4.imp id fun a4 x hx g hg => a4 x hx g (by rwa [hev x hx] at hg), a5,
          fun s2 l1 l2 l3 => a6 s2 (l1.trans m.n) (fun x hx => (l2 x hx).trans (hev x hx)) fun g hg => (l3 g hg).trans (hhome g hg)⟩
    · rw [ho] at hp2; cases hp2; exact turn_edges ht k hb
    · have := h.nodup
      rw [List.cons_append] at this
      exact (List.perm_middle.nodup_iff).2 this
    · rcases h.every j p hjp with h1 | h1
      · rcases List.mem_cons.1 h1 with e | h1
        · exact .inr (e ▸ List.mem_cons_self)
        · exact .inl h1
      · exact .inr (List.mem_cons_of_mem _ h1)
    · rcases List.mem_cons.1 hj with e | hj
      · subst e; exact ⟨o, ho⟩
      · exact h.valid j hj
  have run : ∀ {σ0 : St}, Ext σ σ0 → (∀ {r'}, (opQ ty cx call calls q o σ0).Is r' → LocD (looks all o) o.dst σ r' (fun s' r' => StepV ty cx call calls all q o s' r')) →
      ((opQ ty cx call calls q o σ0).run fun s' => bif (wt.filter fun w => !edgeBy all done o w.1).all (fun w => w.2.all (clean s') && moveOK all σ0 s' w.1) then drawK ty cx call calls all K r (q :: done) (some [q]) (wt.filter fun w => !edgeBy all done o w.1) s' else none) = some v →
      ∃ wt' σ' s', StepV ty cx call calls all q o s s' ∧ DrInv ty cx call calls all r (q :: done) (some [q]) wt' σ' (fun j => j = q ∨ D j) s' ∧ drawK ty cx call calls all K r (q :: done) (some [q]) wt' σ' = some v := by
    intro σ0 he hl hk
    obtain ⟨σ1, hq, hk⟩ := Q.run_some.1 hk
    have hmo : ∀ i, moveOK all σ0 σ1 i = moveOK all σ σ1 i := fun i => by
      have hev : ∀ x, σ0.ev x = σ.ev x := fun x => by
        cases x with
        | tmp t => exact he.get t
        | _ => rfl
      simp only [moveOK, hev, he.get]
    simp only [hmo] at hk
    cases hc : (wt.filter fun w => !edgeBy all done o w.1).all (fun w => w.2.all (clean σ1) && moveOK all σ σ1 w.1) with
    | false => rw [hc] at hk; cases hk
    | true =>
      rw [hc] at hk
      exact key σ1 (hl hq) (.inl hc) (fun _ => .inl hc) hk
  rcases guarded_is hk with ⟨hg, hk⟩ | ⟨j, want, t, b, σ0, hg, ht2, hb, he, ⟨hbw, hk⟩ | ⟨hbw, hk⟩⟩
  · exact run (.refl σ) (fun hq => step_loc hp (.inl ⟨hg, hq⟩)) hk
  · refine run he (fun hq => ?_) hk
    refine ((StepV.ext (all := all) hp he hq).sub (M := looks all o) fun x hx => List.mem_append_left _ hx).mono fun s' r' _ _ c e => .inr ⟨j, want, t, b, hg, ht2, hb.c (c _ (guard_look hg ht2)), .inl ⟨hbw, e⟩⟩
  · refine key (skipO o σ0) (LocD_ext he ((step_loc hp (.inr ⟨j, want, t, b, hg, ht2, hb.c (he.get t), .inr ⟨hbw, rfl⟩⟩)))) (.inr fun x hx => by rw [skip_get, if_neg hx, he.get]) (fun h => .inr (by rw [skip_hm, he.home])) hk

/-- to the end of the window -/
theorem DrInv.window {A : Type} {calls : List (Nat × Nat)} {all : List Oper} {K : St → Option A} {v : A} (hpairs : pairsOK all = true) : ∀ {rest done : List Nat} {win : Option (List Nat)} {wt : List (Nat × List Nat)} {σ s : St} {D : Nat → Prop},
    DrInv ty cx call calls all rest done win wt σ D s → drawK ty cx call calls all K rest done win wt σ = some v →
    ∃ rest' done' win' wt' σ', DrInv ty cx call calls all rest' done' win' wt' σ' D s ∧ drawK ty cx call calls all K rest' done' win' wt' σ' = some v ∧ ∀ q r, rest' = q :: r → ∃ o, all[q]? = some o ∧ pureOp o.op = false := by
  intro rest
  induction rest with
  | nil => intro done win wt σ s D h hk; exact ⟨_, _, _, _, _, h, hk, fun q r e => by cases e⟩
  | cons i r ih =>
    intro done win wt σ s D h hk
    have hst := h.stat
    cases hst with
    | cons ho ht hs =>
      rename_i o
      cases hp : pureOp o.op with
      | false => exact ⟨_, _, _, _, _, h, hk, fun q r' e => by cases e; exact ⟨o, ho, hp⟩⟩
      | true =>
        obtain ⟨win', wt', σ', h', hk'⟩ := h.pure hpairs ho hp hk
        exact ih h' hk'
/-- an operation that only reads comes up -/
theorem DrInv.read {calls : List (Nat × Nat)} {all : List Oper} (hpairs : pairsOK all = true) {i : Nat} {rest done : List Nat} {win : Option (List Nat)} {wt : List (Nat × List Nat)} {σ s : St} {D : Nat → Prop} {o : Oper} (ho : all[i]? = some o) (hp : pureOp o.op = true) (hi : i ∈ done) (hiD : ¬ D i)
    (h : DrInv ty cx call calls all rest done win wt σ D s) (hD : ∀ j, binds o j → D j) :
    ∃ s', StepV ty cx call calls all i o s s' ∧ DrInv ty cx call calls all rest done win wt σ (fun j => j = i ∨ D j) s' := by
  have hlook : ∀ x, x ∈ looks all o → s.ev x = σ.ev x := ev_like h.get fun x j p hx hj hpp hd => by
    by_cases e : i = j
    · subst e; rw [ho] at hj; cases hj; exact absurd hx (pair_self hpairs ho hp hd)
    · rcases pair_look hpairs ho hj e hd hx with hb | ⟨c, _⟩
      · exact hD j hb
      · rw [hpp] at c; cases c
  have mk : ∀ s' : St, s'.n = s.n → (∀ g, s'.home? g = s.home? g) → (∀ x, o.dst ≠ some x → s'.get x = s.get x) → (∀ d, o.dst = some d → s'.get d = σ.get d) → DrInv ty cx call calls all rest done win wt σ (fun j => j = i ∨ D j) s' := by
    intro s' hn hh hg hd
    refine ⟨fun j hj => hj.elim (fun e => e ▸ hi) (h.sub j), fun j p a b c => .inr (h.imp j p a b c), fun j p k hj hjp hb => ?_, hn.trans h.n, fun g => (hh g).trans (h.home g), fun x => ?_, fun j p a b c => h.pend j p a (fun e => b (.inr e)) c, h.lin, h.nodup, h.stat, h.every, h.valid⟩
    · rcases hj with e | hj
      · subst e; rw [ho] at hjp; cases hjp; exact .inr (hD k hb)
      · exact .inr (h.closed j p k hj hjp hb)
    · by_cases hx : o.dst = some x
      · exact .inr (hd x hx)
      · rw [hg x hx]
        rcases h.get x with ⟨j, p, a1, a2, a3, a4⟩ | e
        · refine .inl ⟨j, p, a1, a2, fun c => c.elim (fun e => ?_) a3, a4⟩
          subst e; rw [ho] at a1; cases a1; exact hx a4
        · exact .inr e
  have hb : ∀ {k : Nat} {want : Bool} {t : Nat} {b : Option Bool}, o.guard = some (k, want) → (all[k]?).bind (·.dst) = some t → Gd σ t b → Gd s t b := fun hg ht hq => by
    exact hq.c (hlook _ (guard_look hg ht))
  rcases h.pend i o hi hiD ho with ⟨k, want, t, b, a1, a2, a3, a4, a5⟩ | ⟨refs, d, vv, a0, a1, a2, a3, adn, a4, a5, a6⟩
  · refine ⟨skipO o s, .inr ⟨k, want, t, b, a1, a2, hb a1 a2 a3, .inr ⟨a4, rfl⟩⟩, mk _ ?_ (fun g => by rw [skip_hm]) (fun x hx => by rw [skip_get, if_neg hx]) (fun d hd => by rw [skip_get, if_pos hd, a5 d hd])⟩
    unfold skipO; cases o.dst <;> rfl
  · have hq := a6 s h.n (fun x hx => hlook x (List.mem_append_left _ hx)) fun g _ => h.home g
    refine ⟨s.set d vv, ?_, mk _ rfl (fun g => rfl) (fun x hx => by rw [get_set, if_neg (fun c => hx (by rw [a2, c]))]) (fun d' hd => by rw [a2] at hd; cases hd; rw [get_set, if_pos rfl, a3])⟩
    rcases a1 with e | ⟨k, want, t, b, b1, b2, b3, b4⟩
    · exact .inl ⟨e, hq⟩
    · exact .inr ⟨k, want, t, b, b1, b2, hb b1 b2 b3, .inl ⟨b4, hq⟩⟩
theorem stepV_sound (tok : TyOK P ty) (cok : CallOK P cx call) {calls : List (Nat × Nat)} {ops : Array Oper} {i : Nat} {o : Oper} {s s' : St} {a : Act} {w : World} {I : CS} {hr : Nat → HR} {QQ : Exit → Act → World → Prop} {KK : Act → World → Prop} {wr : List Nat} (hwr : ∀ o, o ∈ ops.toList → ∀ d, o.dst = some d → d ∈ wr)
    (ho : ops.toList[i]? = some o) (h : StepV ty cx call calls ops.toList i o s s') (R : StRel w I s hr a.tmps) (hK : ∀ a' w' I' hr', Behind wr a w I s hr a' w' I' s' hr' → KK a' w') : wpOp P ops QQ i KK a w := by
  have hmem : o ∈ ops.toList := List.mem_of_getElem? ho
  have ho2 : ops[i]? = some o := by rw [← Array.getElem?_toList]; exact ho
  have hrun : (opQ ty cx call calls i o s).Is s' → o.wp P a w KK QQ := by
    intro h1
    obtain ⟨st, ml⟩ := op_sound tok cok R h1
    refine Oper.wp_mono (fun a' w' ⟨v, I', hr', e, R', T'⟩ => ?_) (st QQ)
    subst e
    exact hK _ _ _ _ ⟨R', T', ml, put_defers .., put_size .., fun n hn => put_ne fun e => notIn_iff.1 hn (hwr o hmem n e), fun n hn c => .inr (opQ_stays h1 n (fun e => notIn_iff.1 hn (hwr o hmem n e)) c)⟩
  simp only [wpOp, ho2]
  rcases h with ⟨hg, hq⟩ | ⟨j, want, t, b, hg, ht, hb, ⟨hbw, hq⟩ | ⟨hbw, hq⟩⟩
  · simp only [Region.wanted, hg, if_true]
    exact .inl (hrun hq)
  · rw [Array.getElem?_toList] at ht
    have hy : yielded ops a.tmps j = b := gd_yield R ht hb
    have : Region.wanted o (yielded ops a.tmps) = true := by
      simp only [Region.wanted, hg, hy]; simp [hbw]
    rw [if_pos this]
    exact .inl (hrun hq)
  · rw [Array.getElem?_toList] at ht
    have hy : yielded ops a.tmps j = b := gd_yield R ht hb
    have : ¬ Region.wanted o (yielded ops a.tmps) = true := by
      simp only [Region.wanted, hg, hy]; simp [hbw]
    rw [if_neg this]
    subst hq
    exact hK _ _ _ _ ⟨skip_rel R, by rw [skip_hm]; exact .refl .., skip_mild, put_defers .., put_size .., fun n hn => put_ne fun e => notIn_iff.1 hn (hwr o hmem n e), fun n hn c => .inr (by rw [skip_get, if_neg (fun e => notIn_iff.1 hn (hwr o hmem n e))])⟩

def left (listed : Array Bool) (n : Nat) : Nat := (List.range n).countP fun i => !listed.getD i true
theorem countP_lt {p q : Nat → Bool} {i : Nat} : ∀ {l : List Nat}, (∀ j, q j = true → p j = true) → i ∈ l → p i = true → q i = false → l.countP q < l.countP p := by
  intro l
  induction l with
  | nil => intro _ h; cases h
  | cons k r ih =>
    intro hpq hi hp hq
    have hle : r.countP q ≤ r.countP p := List.countP_mono_left fun j _ => hpq j
    rw [List.countP_cons, List.countP_cons]
    rcases List.mem_cons.1 hi with e | hi
    · subst e; simp [hp, hq]; omega
    · have := ih hpq hi hp hq
      cases h1 : q k with
      | true => simp [hpq k h1]; omega
      | false => simp; omega
theorem draw_any (tok : TyOK P ty) (cok : CallOK P cx call) {A : Type} {calls : List (Nat × Nat)} {ops : Array Oper} {K : St → Option A} {v : A} {QQ : Exit → Act → World → Prop} {wr : List Nat} (hwr : ∀ o, o ∈ ops.toList → ∀ d, o.dst = some d → d ∈ wr) (hpairs : pairsOK ops.toList = true)
    {a0 : Act} {w0 : World} {I0 : CS} {s0 : St} {hr0 : Nat → HR} (hQ : ∀ a' w' I' s' hr', Behind wr a0 w0 I0 s0 hr0 a' w' I' s' hr' → K s' = some v → QQ .normal a' w') :
    ∀ (fuel : Nat) (listed : Array Bool) (a : Act) (w : World) (I : CS) (hr : Nat → HR) (rest done : List Nat) (win : Option (List Nat)) (wt : List (Nat × List Nat)) (σ s : St), listed.size = ops.size → left listed ops.size ≤ fuel →
      DrInv ty cx call calls ops.toList rest done win wt σ (Inl listed) s → drawK ty cx call calls ops.toList K rest done win wt σ = some v → (∀ q r, rest = q :: r → ∃ o, ops.toList[q]? = some o ∧ pureOp o.op = false) →
      Behind wr a0 w0 I0 s0 hr0 a w I s hr → wpAny P .any ops QQ fuel listed a w := by
  intro fuel
  induction fuel with
  | zero =>
    intro listed a w I hr rest done win wt σ s hz hl hI hk hw B
    have hno : ∀ i, i ∉ Region.ready .any ops listed := fun i hi => by
      have hi' := mem_ready.1 hi
      obtain ⟨h0, o, ho, _⟩ := hi'
      have : 0 < left listed ops.size := List.countP_pos_iff.2 ⟨i, List.mem_range.2 (Array.getElem?_eq_some_iff.1 ho).1, by rw [h0]; rfl⟩
      omega
    have hnil : Region.ready .any ops listed = [] := List.eq_nil_iff_forall_not_mem.2 hno
    refine ⟨hnil, ?_⟩
    have hall : ∀ j, j ∈ done → Inl listed j := fun j hj => Classical.byContradiction fun c => by
      obtain ⟨k, o, _, h2, h3, h4⟩ := lin_ready hI.lin hI.valid ⟨j, hj, c⟩
      exact hno k ((ready_is hz).2 ⟨h3, o, h2, h4⟩)
    cases rest with
    | nil =>
      simp only [drawK] at hk
      have he : Ext s σ := ⟨hI.n.symm, fun x => by
        rcases hI.get x with ⟨j, o, a1, a2, a3, a4⟩ | e
        · exact absurd (hall j ((hI.every j o a1).resolve_left (by simp))) a3
        · exact e.symm, fun h => (hI.home h).symm⟩
      exact hQ a w I σ hr ⟨he.rel B.rel, B.trans.trans (he.trs hr), B.mild.trans he.mild, B.defers, B.size, B.slots, B.evs.trans (.same he.get) he.mild⟩ hk
    | cons q r =>
      exfalso
      have hst := hI.stat
      cases hst with
      | cons ho ht hs =>
        rename_i o
        refine hno q ((ready_is hz).2 ⟨fun c => ?_, o, ho, fun j hb => hall j (turn_edges ht j hb)⟩)
        have := hI.nodup
        rw [List.cons_append, List.nodup_cons] at this
        exact this.1 (List.mem_append_right _ (hI.sub q c))
  | succ fuel ih =>
    intro listed a w I hr rest done win wt σ s hz hl hI hk hw B
    constructor
    · intro hnil
      have hno : ∀ i, i ∉ Region.ready .any ops listed := fun i hi => by rw [hnil] at hi; cases hi
      have hall : ∀ j, j ∈ done → Inl listed j := fun j hj => Classical.byContradiction fun c => by
        obtain ⟨k, o, _, h2, h3, h4⟩ := lin_ready hI.lin hI.valid ⟨j, hj, c⟩
        exact hno k ((ready_is hz).2 ⟨h3, o, h2, h4⟩)
      cases rest with
      | nil =>
        simp only [drawK] at hk
        have he : Ext s σ := ⟨hI.n.symm, fun x => by
          rcases hI.get x with ⟨j, o, a1, a2, a3, a4⟩ | e
          · exact absurd (hall j ((hI.every j o a1).resolve_left (by simp))) a3
          · exact e.symm, fun h => (hI.home h).symm⟩
        exact hQ a w I σ hr ⟨he.rel B.rel, B.trans.trans (he.trs hr), B.mild.trans he.mild, B.defers, B.size, B.slots, B.evs.trans (.same he.get) he.mild⟩ hk
      | cons q r =>
        exfalso
        have hst := hI.stat
        cases hst with
        | cons ho ht hs =>
          rename_i o
          refine hno q ((ready_is hz).2 ⟨fun c => ?_, o, ho, fun j hb => hall j (turn_edges ht j hb)⟩)
          have := hI.nodup
          rw [List.cons_append, List.nodup_cons] at this
          exact this.1 (List.mem_append_right _ (hI.sub q c))
    · intro i hi
      obtain ⟨hiD, o, ho, hD⟩ := (ready_is hz).1 hi
      have hlt : i < listed.size := by rw [hz, ← Array.length_toList]; exact (List.getElem?_eq_some_iff.1 ho).1
      have hD' : (fun j => j = i ∨ Inl listed j) = Inl (listed.setIfInBounds i true) := by
        funext j; exact propext (Inl.set hlt).symm
      have hleft : left (listed.setIfInBounds i true) ops.size ≤ fuel := by
        have : left (listed.setIfInBounds i true) ops.size < left listed ops.size := by
          refine countP_lt (i := i) (fun j hj => ?_) (List.mem_range.2 (by rw [← hz]; exact hlt)) ?_ ?_
          · by_cases e : i = j
            · subst e; simp [hlt] at hj
            · simpa [Array.getElem?_setIfInBounds_ne e] using hj
          · rw [(mem_ready.1 hi).1]; rfl
          · simp [hlt]
        omega
      have hz' : (listed.setIfInBounds i true).size = ops.size := by simp [hz]
      by_cases hin : i ∈ done
      · have hp : pureOp o.op = true := by
          cases hp : pureOp o.op with
          | true => rfl
          | false => exact absurd (hI.imp i o hin ho hp) hiD
        obtain ⟨s', hstep, hI'⟩ := hI.read hpairs ho hp hin hiD hD
        rw [hD'] at hI'
        exact stepV_sound tok cok hwr ho hstep B.rel fun a' w' I' hr' B' => ih _ _ _ _ _ _ _ _ _ _ _ hz' hleft hI' hk hw (B.andThen B' fun n hn => ⟨hn, hn⟩)
      · have hrest : i ∈ rest := (hI.every i o ho).resolve_right hin
        cases rest with
        | nil => cases hrest
        | cons q r =>
          obtain ⟨oq, hoq, hpq⟩ := hw q r rfl
          have hnd := hI.nodup
          rw [List.cons_append, List.nodup_cons] at hnd
          have hqD : ¬ Inl listed q := fun c => hnd.1 (List.mem_append_right _ (hI.sub q c))
          have hiq : i = q := by
            rcases List.mem_cons.1 hrest with e | hr2
            · exact e
            · exfalso
              have hst := hI.stat
              cases hst with
              | cons ho' ht hs =>
                rw [hoq] at ho'; cases ho'
                rw [hpq] at hs
                simp only [cond_false] at hs
                obtain ⟨o2, j, h1, h2, h3⟩ := stat_waits (D := Inl listed) hs (by simp) (fun j hj => by
                  rcases List.mem_cons.1 hj with e | hj
                  · rw [e]; exact hqD
                  · cases hj) (fun j hj c => by
                  have hjd := hI.sub j c
                  exact (List.nodup_append.1 hnd.2).2.2 j hj j hjd rfl) i hr2
                rw [ho] at h1; cases h1
                exact h3 (hD j h2)
          subst hiq
          rw [ho] at hoq; cases hoq
          obtain ⟨wt', σ', s', hstep, hI', hk'⟩ := hI.write hpairs ho hpq hD hk
          rw [hD'] at hI'
          refine stepV_sound tok cok hwr ho hstep B.rel fun a' w' I' hr' B' => ?_
          obtain ⟨rest2, done2, win2, wt2, σ2, hI2, hk2, hw2⟩ := hI'.window hpairs hk'
          exact ih _ _ _ _ _ _ _ _ _ _ _ hz' hleft hI2 hk2 hw2 (B.andThen B' fun n hn => ⟨hn, hn⟩)
theorem drawn_rel {w w' : World} (hk : ∀ A : CS, Keep w w' A) (hz : w'.heap.size = w.heap.size) {I : CS} {s : St} {hr : Nat → HR} {tmps : Array Value} (R : StRel w I s hr tmps) : StRel w' I s hr tmps := by
  obtain ⟨Rr, Rs, Rn⟩ := R
  refine ⟨⟨fun g H e => HRel_keep (.refl _) (hk _) (hk _) (.refl _) (Rr.home g H e), Rr.disj, Rr.apart, fun b o x => by rw [hz]; exact Rr.old b o x, fun g H e b o x => by rw [hz]; exact Rr.oldf g H e b o x⟩, fun n => ?_, Rn⟩
  have := EvRel_map (f := id) (w' := w') (I' := I) (hm' := s.home?) (hr' := hr) (fun a r ha => AtRel_stay (.refl _) (hk _) (fun g _ => by
    cases e : s.home? g with
    | none => exact .inl e
    | some H => exact .inr ⟨H, H, e, e, rfl, rfl, rfl, hk _, .refl _⟩) ha) (Rs n)
  rwa [EV.map_id] at this
theorem drawn_behind {wr : List Nat} {a : Act} {w : World} {I : CS} {s : St} {hr : Nat → HR} (R : StRel w I s hr a.tmps) (n : Nat) : Behind wr a w I s hr a { w with drawn := n } I s hr :=
  ⟨drawn_rel (w := w) (w' := { w with drawn := n }) (fun A b o _ => ⟨rfl, rfl, fun _ _ h => h⟩) rfl R, ⟨⟨rfl, rfl, rfl, Nat.le_refl _, fun _ _ _ => rfl, fun _ _ _ _ => ⟨rfl, rfl, fun _ _ h => h⟩⟩, .refl _, fun _ _ x => .inl x, fun _ _ x => .inl x, fun g H' e io => ⟨H', e, io, rfl, rfl, rfl⟩⟩, .refl s, rfl, rfl, fun _ _ => rfl, .refl s⟩
theorem draw_sound (tok : TyOK P ty) (cok : CallOK P cx call) {A : Type} {calls : List (Nat × Nat)} {ord kh : List Nat} {id : Nat} {ops : Array Oper} {K : St → Option A} {v : A} {QQ : Exit → Act → World → Prop} {s : St} {a : Act} {w : World} {I : CS} {hr : Nat → HR}
    (R : StRel w I s hr a.tmps) (hk : (bif true && pairsOK ops.toList && nodupN ord && (zipI 0 ops.toList).all (fun p => hasN ord p.1) then drawK ty cx call calls ops.toList (fun s' => K (fixHm s s' kh)) ord [] none [] { s with hm := offHm s kh ++ s.hm } else none) = some v)
    (hQ : ∀ a' w' I' s' hr', Behind (writes (.region id ops true)) a w I s hr a' w' I' s' hr' → K s' = some v → QQ .normal a' w') : (Code.region id ops true).wp P QQ a w := by
  cases hc : (true && pairsOK ops.toList && nodupN ord && (zipI 0 ops.toList).all (fun p => hasN ord p.1)) with
  | false => rw [hc] at hk; cases hk
  | true =>
    rw [hc] at hk
    simp only [cond_true] at hk
    simp only [Bool.true_and, Bool.and_eq_true, List.all_eq_true] at hc
    obtain ⟨⟨hpairs, hnd⟩, hall⟩ := hc
    let m : Tm := ⟨[], [], [], kh⟩
    have hwr : ∀ o, o ∈ ops.toList → ∀ d, o.dst = some d → d ∈ writes (.region id ops true) := fun o ho d hd => by simp only [writes, List.mem_filterMap]; exact ⟨o, ho, hd⟩
    refine wp_region_any tok.mixed ?_
    have B0 : Behind (writes (.region id ops true)) a w I (m.off s) hr a { w with drawn := w.drawn + 1 } I (m.off s) hr := drawn_behind ((off_same m s).rel R) _
    have hl : left (Array.replicate ops.size false) ops.size ≤ ops.size := by
      have := List.countP_le_length (p := fun i => !(Array.replicate ops.size false).getD i true) (l := List.range ops.size)
      simpa [left] using this
    have hno : ∀ j, ¬ Inl (Array.replicate ops.size false) j := fun j c => by
      simp only [Inl, Array.getD_eq_getD_getElem?] at c
      by_cases h : j < ops.size <;> simp [h] at c
    have hI : DrInv ty cx call calls ops.toList ord [] none [] (m.off s) (Inl (Array.replicate ops.size false)) (m.off s) :=
      ⟨fun j hj => absurd hj (hno j), fun j o hj => (nomatch hj), fun j o k hj => absurd hj (hno j), rfl, fun _ => rfl, fun _ => .inr rfl, fun j o hj => (nomatch hj), trivial, by simpa using nodupN_iff hnd, drawK_stat hk, fun j o hj => .inl (hasN_iff.1 (by have := hall _ (zipI_mem (n := 0) hj); simpa using this)), fun j hj => (nomatch hj)⟩
    obtain ⟨rest2, done2, win2, wt2, σ2, hI2, hk2, hw2⟩ := hI.window hpairs hk
    exact draw_any tok cok hwr hpairs (K := fun s' => K (fixHm s s' kh)) (fun a' w' I' s' hr' B hk' => hQ a' w' I' _ hr' (fix_behind m R B) hk') ops.size _ a _ I hr rest2 done2 win2 wt2 σ2 (m.off s) (by simp) hl hI2 hk2 hw2 B0
end Go.VM
/- Soundness, draws, part 6: operations of which either may come first. -/
namespace Go.VM
variable {P : Program} {ty : Types}
variable {cx : Nat → Inst} {call : (j : Nat) → (cx j).args.den → Option (cx j).res}

theorem both_some {A : Type} {x y : Option A} {v : A} (h : both x y = some v) : x = some v ∧ y = some v := by
  unfold both at h
  split at h
  · rename_i e; exact ⟨h, e ▸ h⟩
  · cases h
theorem both_self {A : Type} (x : Option A) : both x x = x := by simp [both]
/-- a list of operations as it is drawn -/
def RunL (ops : Array Oper) : Nat → Array Bool → List Nat → Prop
  | 0, _, l => l = []
  | _ + 1, listed, [] => Region.ready .any ops listed = []
  | fuel + 1, listed, k :: r => k ∈ Region.ready .any ops listed ∧ RunL ops fuel (listed.setIfInBounds k true) r
theorem go_run {ops : Array Oper} : ∀ (fuel t : Nat) (listed : Array Bool), RunL ops fuel listed (Region.linearise.go .any ops fuel t listed []) := by
  intro fuel
  induction fuel with
  | zero => intro t listed; simp [Region.linearise.go, RunL]
  | succ fuel ih =>
    intro t listed
    simp only [Region.linearise.go]
    change RunL ops (fuel + 1) listed (match (Region.ready .any ops listed)[t % (Region.ready .any ops listed).length]? with
      | some i => Region.linearise.go .any ops fuel (t / (Region.ready .any ops listed).length) (listed.setIfInBounds i true) [i]
      | none => [].reverse)
    cases hi : (Region.ready .any ops listed)[t % (Region.ready .any ops listed).length]? with
    | none =>
      cases hr : Region.ready .any ops listed with
      | nil => simpa [RunL] using hr
      | cons x xs =>
        rw [hr] at hi
        have hlt : t % (x :: xs).length < (x :: xs).length := Nat.mod_lt _ (by simp)
        simp at hi
        simp at hlt
        omega
    | some i =>
      simp only []
      rw [linearise_go_acc, List.reverse_singleton, List.singleton_append]
      exact ⟨List.mem_of_getElem? hi, ih ..⟩
theorem any_run {ops : Array Oper} {Q : Exit → Act → World → Prop} : ∀ {fuel : Nat} {listed : Array Bool} {l : List Nat} {a : Act} {w : World}, wpAny P .any ops Q fuel listed a w → RunL ops fuel listed l → wpOps P ops Q l a w
  | 0, _, l, _, _, h, r => by
    have r : l = [] := r
    subst r
    exact h.2
  | _ + 1, _, [], _, _, h, r => h.1 r
  | fuel + 1, listed, k :: r, a, w, h, ⟨h1, h2⟩ => by
    rw [wpOps_cons]
    exact wpOp_mono (fun a w h => any_run h h2) (h.2 k h1)
/-- the same operations, but for what they wait for -/
def bare (o : Oper) : Oper := { o with after := #[] }
def SameOps (ops ops' : Array Oper) : Prop := ∀ i : Nat, (ops[i]?).map bare = (ops'[i]?).map bare
theorem wp_bare {o o' : Oper} (h : bare o = bare o') {a : Act} {w : World} {K : Act → World → Prop} {Q : Exit → Act → World → Prop} : o.wp P a w K Q = o'.wp P a w K Q ∧ o.asks P a w = o'.asks P a w := by
  cases o; cases o'
  simp only [bare, Oper.mk.injEq] at h
  obtain ⟨rfl, rfl, rfl, rfl, _, rfl⟩ := h
  exact ⟨rfl, rfl⟩
theorem wanted_bare {o o' : Oper} (h : bare o = bare o') {y : Nat → Option Bool} : Region.wanted o y = Region.wanted o' y := by
  cases o; cases o'
  simp only [bare, Oper.mk.injEq] at h
  obtain ⟨rfl, rfl, rfl, rfl, _, rfl⟩ := h
  rfl
theorem yielded_same {ops ops' : Array Oper} (h : SameOps ops ops') (t : Array Value) : yielded ops t = yielded ops' t := by
  funext j
  have := h j
  unfold yielded
  have e : (ops[j]?).bind (·.dst) = (ops'[j]?).bind (·.dst) := by
    have := congrArg (fun x : Option Oper => x.bind (·.dst)) this
    cases h1 : ops[j]? <;> cases h2 : ops'[j]? <;> rw [h1, h2] at this <;> exact this
  rw [e]
theorem wpOps_same {ops ops' : Array Oper} (h : SameOps ops ops') {Q : Exit → Act → World → Prop} : ∀ {l : List Nat} {a : Act} {w : World}, wpOps P ops Q l a w = wpOps P ops' Q l a w
  | [], _, _ => rfl
  | i :: r, a, w => by
    have ih : wpOps P ops Q r = wpOps P ops' Q r := by funext a w; exact wpOps_same h
    have hi := h i
    simp only [wpOps]
    cases h1 : ops[i]? with
    | none =>
      cases h2 : ops'[i]? with
      | none => simp only [ih]
      | some o' => rw [h1, h2] at hi; cases hi
    | some o =>
      cases h2 : ops'[i]? with
      | none => rw [h1, h2] at hi; cases hi
      | some o' =>
        rw [h1, h2] at hi
        have hb : bare o = bare o' := Option.some.inj hi
        have hd : o.dst = o'.dst := by cases o; cases o'; simp only [bare, Oper.mk.injEq] at hb; exact hb.1
        have ha : o.asks P a w = o'.asks P a w := (wp_bare (K := fun _ _ => True) (Q := Q) hb).2
        simp only [ih, yielded_same h, wanted_bare hb, (wp_bare hb).1, ha, hd]
theorem addE_get : ∀ {all : List Oper} {i j k : Nat}, (addE all i j)[k]? = if k = i then (all[k]?).map (fun o => { o with after := o.after.push ⟨j, .data⟩ }) else all[k]?
  | [], i, j, k => by simp [addE]
  | o :: r, 0, j, k => by cases k <;> simp [addE]
  | o :: r, i + 1, j, k => by
    cases k with
    | zero => simp [addE]
    | succ k => simp only [addE, List.getElem?_cons_succ, addE_get, Nat.add_right_cancel_iff]
def addA (ops : Array Oper) (i j : Nat) : Array Oper := (addE ops.toList i j).toArray
theorem addE_length : ∀ {all : List Oper} {i j : Nat}, (addE all i j).length = all.length
  | [], i, j => by simp [addE]
  | o :: r, 0, j => by simp [addE]
  | o :: r, i + 1, j => by simp [addE, addE_length]
theorem addA_size {ops : Array Oper} {i j : Nat} : (addA ops i j).size = ops.size := by simp [addA, addE_length]
theorem addA_same {ops : Array Oper} {i j : Nat} : SameOps ops (addA ops i j) := fun k => by
  have e : (addA ops i j)[k]? = (addE ops.toList i j)[k]? := by unfold addA; rw [List.getElem?_toArray]
  rw [e, addE_get]
  split
  · rw [Array.getElem?_toList]; cases ops[k]? <;> rfl
  · rw [Array.getElem?_toList]
theorem SameOps.trans {a b c : Array Oper} (h : SameOps a b) (k : SameOps b c) : SameOps a c := fun i => (h i).trans (k i)
theorem add_ready {ops : Array Oper} {i j k : Nat} {listed : Array Bool} (hz : listed.size = ops.size) : k ∈ Region.ready .any (addA ops i j) listed ↔ k ∈ Region.ready .any ops listed ∧ (k = i → Inl listed j) := by
  rw [ready_is hz, ready_is (hz.trans addA_size.symm)]
  unfold addA
  simp only [addE_get]
  by_cases e : k = i
  · subst e
    simp only [if_pos]
    constructor
    · rintro ⟨h0, o, ho, h⟩
      obtain ⟨o', ho', rfl⟩ := Option.map_eq_some_iff.1 ho
      exact ⟨⟨h0, o', ho', fun m hm => h m (by obtain ⟨e, he, hb, hj⟩ := hm; exact ⟨e, Array.mem_push.2 (.inl he), hb, hj⟩)⟩, fun _ => h j ⟨⟨j, .data⟩, Array.mem_push.2 (.inr rfl), rfl, rfl⟩⟩
    · rintro ⟨⟨h0, o, ho, h⟩, hj⟩
      refine ⟨h0, _, Option.map_eq_some_iff.2 ⟨o, ho, rfl⟩, fun m hm => ?_⟩
      obtain ⟨e, he, hb, he2⟩ := hm
      rcases Array.mem_push.1 he with he | rfl
      · exact h m ⟨e, he, hb, he2⟩
      · subst he2; exact hj trivial
  · simp only [e, if_false, false_implies, and_true]
theorem inl_set {listed : Array Bool} {i j : Nat} (h : Inl listed j) : Inl (listed.setIfInBounds i true) j := by
  by_cases hi : i < listed.size
  · exact (Inl.set hi).2 (.inr h)
  · rwa [Array.setIfInBounds_eq_of_size_le (by omega)]
theorem ready_lt {ops : Array Oper} {listed : Array Bool} {k : Nat} (hz : listed.size = ops.size) (h : k ∈ Region.ready .any ops listed) : k < listed.size := by
  obtain ⟨_, o, ho, _⟩ := (ready_is hz).1 h
  rw [Array.getElem?_toList] at ho
  rw [hz]; exact (Array.getElem?_eq_some_iff.1 ho).1
/-- once the one is there that is waited for -/
theorem run_add {ops : Array Oper} {i j : Nat} : ∀ {fuel : Nat} {listed : Array Bool} {l : List Nat}, listed.size = ops.size → Inl listed j → RunL ops fuel listed l → RunL (addA ops i j) fuel listed l
  | 0, _, _, _, _, h => h
  | _ + 1, listed, [], hz, hj, h => List.eq_nil_iff_forall_not_mem.2 fun k hk => by
    have h : Region.ready .any ops listed = [] := h
    have := ((add_ready hz).1 hk).1
    rw [h] at this; cases this
  | fuel + 1, listed, k :: r, hz, hj, ⟨h1, h2⟩ => ⟨(add_ready hz).2 ⟨h1, fun _ => hj⟩, run_add (by simpa using hz) (inl_set hj) h2⟩
/-- the one comes first or the other -/
theorem run_split {ops : Array Oper} {i j : Nat} (hne : i ≠ j) : ∀ {fuel : Nat} {listed : Array Bool} {l : List Nat}, listed.size = ops.size → RunL ops fuel listed l → RunL (addA ops i j) fuel listed l ∨ RunL (addA ops j i) fuel listed l
  | 0, _, _, _, h => .inl h
  | _ + 1, listed, [], hz, h => .inl (List.eq_nil_iff_forall_not_mem.2 fun k hk => by
    have h : Region.ready .any ops listed = [] := h
    have := ((add_ready hz).1 hk).1
    rw [h] at this; cases this)
  | fuel + 1, listed, k :: r, hz, ⟨h1, h2⟩ => by
    have hk := ready_lt hz h1
    by_cases e : k = i
    · subst e
      exact .inr ⟨(add_ready hz).2 ⟨h1, fun c => absurd c hne⟩, run_add (by simpa using hz) ((Inl.set hk).2 (.inl rfl)) h2⟩
    · by_cases e2 : k = j
      · subst e2
        exact .inl ⟨(add_ready hz).2 ⟨h1, fun c => absurd c e⟩, run_add (by simpa using hz) ((Inl.set hk).2 (.inl rfl)) h2⟩
      · rcases run_split hne (by simpa using hz) h2 with h | h
        · exact .inl ⟨(add_ready hz).2 ⟨h1, fun c => absurd c e⟩, h⟩
        · exact .inr ⟨(add_ready hz).2 ⟨h1, fun c => absurd c e2⟩, h⟩
theorem draw_any0 (tok : TyOK P ty) (cok : CallOK P cx call) {A : Type} {calls : List (Nat × Nat)} {ord : List Nat} {ops : Array Oper} {K : St → Option A} {v : A} {QQ : Exit → Act → World → Prop} {wr : List Nat} (hwr : ∀ o, o ∈ ops.toList → ∀ d, o.dst = some d → d ∈ wr) {s : St} {a : Act} {w0 w : World} {I : CS} {hr : Nat → HR}
    (B0 : Behind wr a w0 I s hr a w I s hr) (hk : (bif pairsOK ops.toList && nodupN ord && (zipI 0 ops.toList).all (fun p => hasN ord p.1) then drawK ty cx call calls ops.toList K ord [] none [] s else none) = some v)
    (hQ : ∀ a' w' I' s' hr', Behind wr a w0 I s hr a' w' I' s' hr' → K s' = some v → QQ .normal a' w') : wpAny P .any ops QQ ops.size (Array.replicate ops.size false) a w := by
  cases hc : (pairsOK ops.toList && nodupN ord && (zipI 0 ops.toList).all (fun p => hasN ord p.1)) with
  | false => rw [hc] at hk; cases hk
  | true =>
    rw [hc] at hk
    simp only [cond_true] at hk
    simp only [Bool.and_eq_true, List.all_eq_true] at hc
    obtain ⟨⟨hpairs, hnd⟩, hall⟩ := hc
    have hl : left (Array.replicate ops.size false) ops.size ≤ ops.size := by
      have := List.countP_le_length (p := fun i => !(Array.replicate ops.size false).getD i true) (l := List.range ops.size)
      simpa [left] using this
    have hno : ∀ j, ¬ Inl (Array.replicate ops.size false) j := fun j c => by
      simp only [Inl, Array.getD_eq_getD_getElem?] at c
      by_cases h : j < ops.size <;> simp [h] at c
    have hI : DrInv ty cx call calls ops.toList ord [] none [] s (Inl (Array.replicate ops.size false)) s :=
      ⟨fun j hj => absurd hj (hno j), fun j o hj => (nomatch hj), fun j o k hj => absurd hj (hno j), rfl, fun _ => rfl, fun _ => .inr rfl, fun j o hj => (nomatch hj), trivial, by simpa using nodupN_iff hnd, drawK_stat hk, fun j o hj => .inl (hasN_iff.1 (by have := hall _ (zipI_mem (n := 0) hj); simpa using this)), fun j hj => (nomatch hj)⟩
    obtain ⟨rest2, done2, win2, wt2, σ2, hI2, hk2, hw2⟩ := hI.window hpairs hk
    exact draw_any tok cok hwr hpairs (K := K) (fun a' w' I' s' hr' B hk' => hQ a' w' I' _ hr' B hk') ops.size _ a _ I hr rest2 done2 win2 wt2 σ2 s (by simp) hl hI2 hk2 hw2 B0
theorem drawT_any (tok : TyOK P ty) (cok : CallOK P cx call) {A : Type} {calls : List (Nat × Nat)} {K : St → Option A} {v : A} {QQ : Exit → Act → World → Prop} {wr : List Nat} {s : St} {a : Act} {w0 w : World} {I : CS} {hr : Nat → HR}
    (B0 : Behind wr a w0 I s hr a w I s hr) (hQ : ∀ a' w' I' s' hr', Behind wr a w0 I s hr a' w' I' s' hr' → K s' = some v → QQ .normal a' w') :
    ∀ (t : DT) (ops : Array Oper), (∀ o, o ∈ ops.toList → ∀ d, o.dst = some d → d ∈ wr) → drawT ty cx call calls K s t ops.toList = some v → ∀ l, RunL ops ops.size (Array.replicate ops.size false) l → wpOps P ops QQ l a w
  | .leaf ord, ops, hwr, hk, l, hl => any_run (draw_any0 tok cok hwr B0 hk hQ) hl
  | .split i j x y, ops, hwr, hk, l, hl => by
    simp only [drawT] at hk
    have hne : i ≠ j := fun e => by subst e; simp at hk
    rw [show Nat.beq i j = false from by cases h : Nat.beq i j with | false => rfl | true => exact absurd (Nat.eq_of_beq_eq_true h) hne, cond_false] at hk
    obtain ⟨h1, h2⟩ := both_some hk
    have hw : ∀ p q, ∀ o, o ∈ (addA ops p q).toList → ∀ d, o.dst = some d → d ∈ wr := fun p q o ho d hd => by
      obtain ⟨k, hk⟩ := List.mem_iff_getElem?.1 ho
      unfold addA at hk
      rw [List.toList_toArray, addE_get] at hk
      split at hk
      · obtain ⟨o', ho', rfl⟩ := Option.map_eq_some_iff.1 hk
        exact hwr o' (List.mem_of_getElem? ho') d hd
      · exact hwr o (List.mem_of_getElem? hk) d hd
    rcases run_split hne (by simp) hl with h | h
    · rw [wpOps_same (addA_same (i := i) (j := j))]
      exact drawT_any tok cok B0 hQ x (addA ops i j) (hw i j) (by simpa [addA] using h1) l (by rw [addA_size]; exact h)
    · rw [wpOps_same (addA_same (i := j) (j := i))]
      exact drawT_any tok cok B0 hQ y (addA ops j i) (hw j i) (by simpa [addA] using h2) l (by rw [addA_size]; exact h)
theorem draws_sound (tok : TyOK P ty) (cok : CallOK P cx call) {A : Type} {calls : List (Nat × Nat)} {t : DT} {kh : List Nat} {id : Nat} {ops : Array Oper} {K : St → Option A} {v : A} {QQ : Exit → Act → World → Prop} {s : St} {a : Act} {w : World} {I : CS} {hr : Nat → HR}
    (R : StRel w I s hr a.tmps) (hk : (bif true then drawT ty cx call calls (fun s' => K (fixHm s s' kh)) { s with hm := offHm s kh ++ s.hm } t ops.toList else none) = some v)
    (hQ : ∀ a' w' I' s' hr', Behind (writes (.region id ops true)) a w I s hr a' w' I' s' hr' → K s' = some v → QQ .normal a' w') : (Code.region id ops true).wp P QQ a w := by
  rw [cond_true] at hk
  let m : Tm := ⟨[], [], [], kh⟩
  have hwr : ∀ o, o ∈ ops.toList → ∀ d, o.dst = some d → d ∈ writes (.region id ops true) := fun o ho d hd => by simp only [writes, List.mem_filterMap]; exact ⟨o, ho, hd⟩
  have B0 : Behind (writes (.region id ops true)) a w I (m.off s) hr a { w with drawn := w.drawn + 1 } I (m.off s) hr := drawn_behind ((off_same m s).rel R) _
  refine wp_region_draw fun n => ?_
  simp only [Region.schedule, tok.mixed, Bool.true_or, if_true]
  exact drawT_any tok cok B0 (K := fun s' => K (fixHm s s' kh)) (fun a' w' I' s' hr' B hk' => hQ a' w' I' _ hr' (fix_behind m R B) hk') t ops hwr hk _ (go_run ..)
end Go.VM
/- Soundness, part 27: code. -/
namespace Go.VM
variable {P : Program} {ty : Types}

/-! ### code -/
def exM : Ex → Exit → Prop
  | .normal, .normal => True
  | .exit i, .exit j => i = j
  | .ret, .ret => True
  | _, _ => False
def Good (P : Program) (c : Code) (F : (B : Type) → Ann → (Ex → St → Option B) → St → Option B) : Prop :=
  ∀ (B : Type) (an : Ann) (K : Ex → St → Option B) (s : St) (r : B) (a : Act) (w : World) (I : CS) (hr : Nat → HR), F B an K s = some r → StRel w I s hr a.tmps →
    ∀ QQ : Exit → Act → World → Prop, (∀ ex e a' w' I' s' hr', exM ex e → Behind (writes c) a w I s hr a' w' I' s' hr' → K ex s' = some r → QQ e a' w') → c.wp P QQ a w

theorem injSl_not {l : List (Nat × SlT)} : ∀ {x : slD l} {n : Nat}, (∀ p, p ∈ l → p.1 ≠ n) → getL (injSl l x) n = none := by
  induction l with
  | nil => intro x n _; rfl
  | cons p r ih =>
    intro x n h
    obtain ⟨k, t⟩ := p
    have hk : k ≠ n := h (k, t) List.mem_cons_self
    cases t <;> simp only [injSl, getL_cons, if_neg hk] <;> exact ih fun p hp => h p (List.mem_cons_of_mem _ hp)
theorem keepSl_all (s : St) : ∀ (l : List Nat) (n : Nat), getL (keepSl s l) n = some (s.get n) ∨ getL (keepSl s l) n = none
  | [], _ => .inr rfl
  | k :: r, n => by
    simp only [keepSl, getL_cons]
    by_cases e : k = n
    · subst e; rw [if_pos rfl]; exact .inl rfl
    · rw [if_neg e]; exact keepSl_all s r n
theorem tm_get {m : Tm} {c : Code} (h : (m.sl.all fun p => !notIn (writes c) p.1) = true) {s : St} {khl : List (Nat × Option Home)} (v : m.den) (n : Nat) (hn : notIn (writes c) n = true) : (⟨s.n, injSl m.sl v.1 ++ keepSl s m.ks, injHm m.hm v.2 ++ khl⟩ : St).get n = .at .dead ∨ (⟨s.n, injSl m.sl v.1 ++ keepSl s m.ks, injHm m.hm v.2 ++ khl⟩ : St).get n = s.get n := by
  have : getL (injSl m.sl v.1) n = none := injSl_not fun p hp e => by
    have := List.all_eq_true.1 h p hp
    rw [e, hn] at this; cases this
  simp only [St.get, getL_app, this]
  rcases keepSl_all s m.ks n with e | e
  · rw [e]; exact .inr rfl
  · rw [e]; exact .inl rfl
theorem joined_good {c : Code} {F : (B : Type) → Ann → (Ex → St → Option B) → St → Option B} (hF : Good P c F) : Good P c (fun A an K s => joined c an F A K s) := by
  intro B an K s r a w I hr hk R QQ hQ
  cases an with
  | join m x =>
    simp only [joined] at hk
    cases hok : m.ok c with
    | false => rw [hok] at hk; cases hk
    | true =>
      rw [hok] at hk
      simp only [cond_true, Option.bind_eq_some_iff] at hk
      obtain ⟨r', h1, h2⟩ := hk
      have hok2 : m.ks.all (notIn (writes c)) = true ∧ (m.sl.all fun p => !notIn (writes c) p.1) = true := by simpa only [Tm.ok, Bool.and_eq_true] using hok
      have hks : ∀ n, n ∈ m.ks → notIn (writes c) n = true := fun n hn => List.all_eq_true.1 hok2.1 n hn
      have sm := off_same m s
      have R1 := sm.rel R
      have T1 : Trans w I s.home? hr w I (m.off s).home? hr := sm.trans hr
      refine hF _ x _ (m.off s) r' a w I hr h1 R1 QQ fun ex e a' w' I' s' hr' hm B hk' => ?_
      have fixB : Behind (writes c) a w I s hr a' w' I' (fixHm s s' m.kh) hr' := fix_behind m R B
      cases ex with
      | normal =>
        simp only at hk'
        obtain ⟨v, hv, e3⟩ := Q.run_some.1 hk'
        cases e3
        simp only at h2
        obtain ⟨c1, c2, c3, c4⟩ := canon_is hv
        obtain ⟨I2, hr2, R2, T2⟩ := tm_sound (m := m) (s0 := s) (v := v) (khl := keepHm s m.kh) B.rel (B.mild.n.trans sm.n) c3 c4 (fun h H' e1 hno => by
          rw [keepHm_get] at e1
          split at e1
          · rename_i hk
            simp only [Option.some.injEq] at e1
            obtain ⟨H, a1, a2⟩ := c2 h hk
            have := B.mild.keep h H a1 a2
            rw [off_home, if_pos hk, e1] at this
            simp only [Option.map_some, Option.some.injEq] at this
            subst this
            exact ⟨_, a1, rfl, rfl, rfl, rfl⟩
          · cases e1) (fun n hn => by
          rcases c1 n hn with h | h | h | ⟨h, hd⟩
          · exact .inr (pv_stays R (T1.trans B.trans) (B.slots n (hks n hn)) (.inl h))
          · exact .inr (pv_stays R (T1.trans B.trans) (B.slots n (hks n hn)) (.inr h))
          · exact .inl h
          · rcases B.evs n (hks n hn) (fun g hg => clean_iff.2 (c2 g (h g hg))) with e | e
            · exact absurd e hd
            · exact .inl e.symm)
        refine hQ .normal e a' w' I2 (m.aft s v) hr2 hm ⟨R2, (T1.trans B.trans).trans T2, ⟨rfl, fun h H' e1 e2 => ?_⟩, B.defers, B.size, B.slots, fun n hn _ => tm_get hok2.2 v n hn⟩ h2
        simp only [Tm.aft, St.home?, getL_app] at e1
        cases a1 : getL (injHm m.hm v.2) h with
        | some o =>
          rw [a1] at e1
          simp only [Option.getD_some] at e1
          subst e1
          rw [injHm_d a1] at e2; cases e2
        | none =>
          rw [a1] at e1
          simp only [keepHm_get] at e1
          split at e1
          · simpa using e1
          · cases e1
      | exit id =>
        simp only [Option.some.injEq] at hk'
        subst hk'
        exact hQ (.exit id) e a' w' I' _ hr' hm fixB h2
      | ret =>
        simp only [Option.some.injEq] at hk'
        subst hk'
        exact hQ .ret e a' w' I' _ hr' hm fixB h2
  | _ => exact hF B _ K s r a w I hr hk R QQ hQ

/-- a loop that is left behind so many rounds -/
theorem wp_loop_n {c : Code} {QQ : Exit → Act → World → Prop} (J : Nat → Act → World → Prop) (round : ∀ n a w, J n a w → c.wp P (Exit.then (fun a' w' => ∃ m, m < n ∧ J m a' w') QQ) a w) {n : Nat} {a : Act} {w : World} (h : J n a w) : (Code.loop c).wp P QQ a w := by
  intro b k cs
  have key : ∀ n a w, J n a w → ∃ e a' w', QQ e a' w' ∧ Arrives P (lone (b.at a (.code c :: .inLoop c :: k)) cs w) b k cs e a' w' := by
    intro n
    induction n using Nat.strongRecOn with
    | _ n ih =>
      intro a w hJ
      obtain ⟨e, a₁, w₁, hq, harr⟩ := round n a w hJ b (.inLoop c :: k) cs
      cases e with
      | normal =>
        obtain ⟨m, hlt, hJ₁⟩ := hq
        obtain ⟨e₂, a₂, w₂, hq₂, harr₂⟩ := ih m hlt a₁ w₁ hJ₁
        exact ⟨e₂, a₂, w₂, hq₂, .of_steps (Steps.trans harr (.one step_inLoop)) harr₂⟩
      | exit id => exact ⟨_, a₁, w₁, hq, .pass (x := .inLoop c) rfl (fun _ _ => .inl (by simp)) harr⟩
      | goto l => exact ⟨_, a₁, w₁, hq, .pass (x := .inLoop c) rfl (fun _ _ => .inl (by simp)) harr⟩
      | ret => exact ⟨_, a₁, w₁, hq, .pass (x := .inLoop c) rfl (fun _ _ => .inl (by simp)) harr⟩
      | panic ch => exact ⟨_, a₁, w₁, hq, .pass (x := .inLoop c) rfl (fun _ _ => .inl (by simp)) harr⟩
      | outgrown => exact ⟨_, a₁, w₁, hq, .pass (x := .inLoop c) rfl (fun _ _ => .inl (by simp)) harr⟩
  obtain ⟨e, a', w', hq, harr⟩ := key n a w h
  exact ⟨e, a', w', hq, .of_steps (.one step_loop) harr⟩

variable {cx : Nat → Inst} {call : (j : Nat) → (cx j).args.den → Option (cx j).res}
theorem notIn_app {a b : List Nat} {n : Nat} (h : notIn (a ++ b) n = true) : notIn a n = true ∧ notIn b n = true := by
  simp only [notIn, List.all_append, Bool.and_eq_true] at h; exact h

theorem code_sound (tok : TyOK P ty) (cok : CallOK P cx call) (fuel : Nat) : ∀ c : Code, Good P c (fun A an K s => codeK ty cx call fuel c an A K s) := by
  intro c
  induction c with
  | skip =>
    intro B an K s r a w I hr hk R QQ hQ
    simp only [codeK] at hk
    exact wp_skip (hQ .normal .normal a w I s hr trivial (.refl R) hk)
  | region id ops dr =>
    simp only [codeK]
    refine joined_good ?_
    intro B an K s r a w I hr hk R QQ hQ
    cases an with
    | reg calls =>
      cases dr with
      | true => cases hk
      | false =>
        simp only [cond_false] at hk
        exact region_sound tok cok R hk fun a' w' I' s' hr' B hk' => hQ .normal .normal a' w' I' s' hr' trivial B hk'
    | draw calls ord kh =>
      cases dr with
      | false => cases hk
      | true => exact draw_sound tok cok R hk fun a' w' I' s' hr' B hk' => hQ .normal .normal a' w' I' s' hr' trivial B hk'
    | draws calls t kh =>
      cases dr with
      | false => cases hk
      | true => exact draws_sound tok cok R hk fun a' w' I' s' hr' B hk' => hQ .normal .normal a' w' I' s' hr' trivial B hk'
    | _ => cases hk
  | seq c d ihc ihd =>
    simp only [codeK]
    refine joined_good ?_
    intro B an K s r a w I hr hk R QQ hQ
    cases an <;> simp only [reduceCtorEq] at hk
    rename_i x y
    refine wp_seq (ihc B x _ s r a w I hr hk R _ fun ex e a' w' I' s' hr' hm B1 hk' => ?_)
    have wr1 : ∀ n, notIn (writes (.seq c d)) n = true → notIn (writes c) n = true := fun n hn => (notIn_app hn).1
    cases ex with
    | normal =>
      cases e <;> simp only [exM] at hm
      simp only [Exit.then]
      exact ihd B y K s' r a' w' I' hr' hk' B1.rel QQ fun ex2 e2 a2 w2 I2 s2 hr2 hm2 B2 hk2 => hQ ex2 e2 a2 w2 I2 s2 hr2 hm2 (B1.andThen B2 fun n hn => notIn_app hn) hk2
    | exit i =>
      cases e <;> simp only [exM] at hm
      exact hQ (.exit i) _ a' w' I' s' hr' hm (B1.wr wr1) hk'
    | ret =>
      cases e <;> simp only [exM] at hm
      exact hQ .ret _ a' w' I' s' hr' trivial (B1.wr wr1) hk'
  | cond c thn els iht ihe =>
    simp only [codeK]
    refine joined_good ?_
    intro B an K s r a w I hr hk R QQ hQ
    cases an <;> simp only [reduceCtorEq] at hk
    rename_i x y
    obtain ⟨b, hb, hk⟩ := Q.run_some.1 hk
    have eb := bool_rel R hb
    cases b with
    | true => exact wp_cond_true eb (iht B x K s r a w I hr hk R QQ fun ex e a' w' I' s' hr' hm B1 hk' => hQ ex e a' w' I' s' hr' hm (B1.wr fun n hn => (notIn_app hn).1) hk')
    | false => exact wp_cond_false eb (ihe B y K s r a w I hr hk R QQ fun ex e a' w' I' s' hr' hm B1 hk' => hQ ex e a' w' I' s' hr' hm (B1.wr fun n hn => (notIn_app hn).2) hk')
  | block id body ih =>
    simp only [codeK]
    refine joined_good ?_
    intro B an K s r a w I hr hk R QQ hQ
    cases an <;> simp only [reduceCtorEq] at hk
    rename_i x
    refine wp_block (ih B x _ s r a w I hr hk R _ fun ex e a' w' I' s' hr' hm B1 hk' => ?_)
    have B1 : Behind (writes (.block id body)) a w I s hr a' w' I' s' hr' := B1
    cases ex with
    | normal =>
      cases e <;> simp only [exM] at hm
      exact hQ .normal .normal a' w' I' s' hr' trivial B1 hk'
    | exit i =>
      cases e <;> simp only [exM] at hm
      rename_i j
      subst hm
      simp only [Exit.inBlock]
      simp only at hk'
      cases hb : Nat.beq i id with
      | true =>
        rw [hb] at hk'
        rw [if_pos (beq_iff.1 hb)]
        exact hQ .normal .normal a' w' I' s' hr' trivial B1 hk'
      | false =>
        rw [hb] at hk'
        rw [if_neg (fun e => by rw [beq_iff.2 e] at hb; cases hb)]
        exact hQ (.exit i) (.exit i) a' w' I' s' hr' rfl B1 hk'
    | ret =>
      cases e <;> simp only [exM] at hm
      exact hQ .ret .ret a' w' I' s' hr' trivial B1 hk'
  | loop body ih =>
    simp only [codeK]
    refine joined_good ?_
    intro B an K s r a w I hr hk R QQ hQ
    cases an <;> simp only [reduceCtorEq] at hk
    rename_i m x
    cases hok : m.ok body with
    | false => rw [hok] at hk; cases hk
    | true =>
      rw [hok] at hk
      simp only [cond_true] at hk
      have hok2 : m.ks.all (notIn (writes body)) = true ∧ (m.sl.all fun p => !notIn (writes body) p.1) = true := by simpa only [Tm.ok, Bool.and_eq_true] using hok
      have hks : ∀ n, n ∈ m.ks → notIn (writes body) n = true := fun n hn => List.all_eq_true.1 hok2.1 n hn
      have hnsl : ∀ v n, notIn (writes body) n = true → (m.inj s v).get n = .at .dead ∨ (m.inj s v).get n = s.get n := fun v n hn => tm_get hok2.2 v n hn
      obtain ⟨v0, hv0, hk⟩ := Q.run_some.1 hk
      generalize hstep : (fun (rec : m.den → Option B) (v : m.den) => codeK ty cx call fuel body x B (fun e s' => match e with
            | .normal => (m.canon s s').run rec
            | .exit id => K (.exit id) (fixHm s s' m.kh)
            | .ret => K .ret (fixHm s s' m.kh)) (m.inj s v)) = step at hk
      let J : Nat → Act → World → Prop := fun n a1 w1 => ∃ v I1 hr1, loopN step n v = some r ∧ StRel w1 I1 (m.inj s v) hr1 a1.tmps ∧ Trans w I s.home? hr w1 I1 (m.inj s v).home? hr1 ∧ a1.defers = a.defers ∧ a1.tmps.size = a.tmps.size ∧
        ∀ n, notIn (writes body) n = true → a1.tmps.getD n undef = a.tmps.getD n undef
      have inj_home : ∀ v h H, (m.inj s v).home? h = some H → H.d = false → h ∈ m.kh ∧ (s.home? h).map (·.mark false) = some H ∧ ∀ o, getL (injHm m.hm v.2) h ≠ some o := by
        intro v h H e d
        simp only [Tm.inj, St.home?, getL_app] at e
        cases a1 : getL (injHm m.hm v.2) h with
        | some o =>
          rw [a1] at e
          simp only [Option.getD_some] at e
          subst e
          rw [injHm_d a1] at d; cases d
        | none =>
          rw [a1] at e
          simp only [offHm_get] at e
          split at e
          · rename_i hk; exact ⟨hk, by simpa using e, fun o q => by cases q⟩
          · cases e
      have start : J fuel a w := by
        obtain ⟨c3, c4⟩ := first_is hv0
        obtain ⟨I2, hr2, R2, T2⟩ := tm_sound (m := m) (s0 := s) (v := v0) (khl := offHm s m.kh) R rfl c3 c4 (fun h H' e1 hno => by
          rw [offHm_get] at e1
          split at e1
          · simp only [Option.some.injEq] at e1
            cases e2 : s.home? h with
            | none => rw [e2] at e1; cases e1
            | some H => rw [e2] at e1; cases e1; exact ⟨H, rfl, rfl, rfl, rfl, rfl⟩
          · cases e1) (fun n hn => .inl rfl)
        exact ⟨v0, I2, hr2, hk, R2, T2, rfl, rfl, fun _ _ => rfl⟩
      refine wp_loop_n J (fun n a1 w1 hJ => ?_) start
      obtain ⟨v, I1, hr1, hl, R1, T1, hdf, hsz, hsl⟩ := hJ
      cases n with
      | zero => simp only [loopN] at hl; cases hl
      | succ n =>
        simp only [loopN] at hl
        have hl2 : codeK ty cx call fuel body x B (fun e s' => match e with
            | .normal => (m.canon s s').run (loopN step n)
            | .exit id => K (.exit id) (fixHm s s' m.kh)
            | .ret => K .ret (fixHm s s' m.kh)) (m.inj s v) = some r := by rw [← hstep] at hl ⊢; exact hl
        refine ih B x _ (m.inj s v) r a1 w1 I1 hr1 hl2 R1 _ fun ex e a' w' I' s' hr' hm B1 hk' => ?_
        have evs' : ∀ n, notIn (writes body) n = true → (∀ g, g ∈ evRefs (s.get n) → clean s' g = true) → s'.get n = .at .dead ∨ s'.get n = s.get n := fun n hn c => by
          rcases hnsl v n hn with e | e
          · rcases B1.evs n hn (fun g hg => by rw [e] at hg; cases hg) with e2 | e2
            · exact .inl e2
            · exact .inl (e2.trans e)
          · rcases B1.evs n hn (fun g hg => c g (by rwa [e] at hg)) with e2 | e2
            · exact .inl e2
            · exact .inr (e2.trans e)
        have slots' : ∀ n, notIn (writes body) n = true → a'.tmps.getD n undef = a.tmps.getD n undef := fun n hn => (B1.slots n hn).trans (hsl n hn)
        have fixB : Behind (writes (.loop body)) a w I s hr a' w' I' (fixHm s s' m.kh) hr' := by
          have fm := fixHm_same s s' m.kh
          refine ⟨fm.rel B1.rel, (T1.trans B1.trans).trans (fm.trans hr'), ⟨fm.n.trans B1.mild.n, fun h H' e1 e2 => ?_⟩, B1.defers.trans hdf, B1.size.trans hsz, slots', fun n hn c => by rw [fm.get]; exact evs' n hn fun g hg => fix_clean (c g hg)⟩
          rw [(fixHm_get s m.kh s').2.2] at e1
          by_cases hk : h ∈ m.kh
          · rw [if_pos hk] at e1
            cases a1 : s'.home? h with
            | none => rw [a1] at e1; cases hz : s.home? h <;> rw [hz] at e1 <;> cases e1
            | some H =>
              cases a0 : s.home? h with
              | none =>
                rw [a0, a1] at e1
                simp only [bothM] at e1
                cases e1
                obtain ⟨_, q, _⟩ := inj_home v h H' (B1.mild.keep h H' a1 e2) e2
                rw [a0] at q; cases q
              | some H0 =>
                rw [a0, a1] at e1
                simp only [bothM, Option.some.injEq] at e1
                subst e1
                have e2 : (H0.d || H.d) = false := e2
                simp only [Bool.or_eq_false_iff] at e2
                obtain ⟨_, q, _⟩ := inj_home v h H (B1.mild.keep h H a1 e2.2) e2.2
                rw [a0] at q
                simp only [Option.map_some, Option.some.injEq] at q
                subst q
                obtain ⟨q1, q2, q3, q4, q5, q6⟩ := H0
                simp only at e2
                simp [Home.mark, e2.1]
          · rw [if_neg hk] at e1
            obtain ⟨q, _⟩ := inj_home v h H' (B1.mild.keep h H' e1 e2) e2
            exact absurd q hk
        cases ex with
        | normal =>
          cases e <;> simp only [exM] at hm
          obtain ⟨v', hv', hl'⟩ := Q.run_some.1 hk'
          obtain ⟨c1, c2, c3, c4⟩ := canon_is hv'
          have T12 := T1.trans B1.trans
          obtain ⟨I2, hr2, R2, T2⟩ := tm_sound (m := m) (s0 := s) (v := v') (khl := offHm s m.kh) B1.rel B1.mild.n c3 c4 (fun h H' e1 hno => by
            rw [offHm_get] at e1
            split at e1
            · rename_i hk
              simp only [Option.some.injEq] at e1
              obtain ⟨H, b1, b2⟩ := c2 h hk
              obtain ⟨_, q, _⟩ := inj_home v h H (B1.mild.keep h H b1 b2) b2
              rw [e1] at q
              cases q
              exact ⟨_, b1, rfl, rfl, rfl, rfl⟩
            · cases e1) (fun n hn => by
            rcases c1 n hn with h | h | h | ⟨h, hd⟩
            · exact .inr (pv_stays R T12 (slots' n (hks n hn)) (.inl h))
            · exact .inr (pv_stays R T12 (slots' n (hks n hn)) (.inr h))
            · exact .inl h
            · rcases evs' n (hks n hn) (fun g hg => clean_iff.2 (c2 g (h g hg))) with e | e
              · exact absurd e hd
              · exact .inl e.symm)
          exact ⟨n, Nat.lt_succ_self n, v', I2, hr2, hl', R2, T12.trans T2, B1.defers.trans hdf, B1.size.trans hsz, slots'⟩
        | exit i =>
          cases e <;> simp only [exM] at hm
          exact hQ (.exit i) _ a' w' I' _ hr' hm fixB hk'
        | ret =>
          cases e <;> simp only [exM] at hm
          exact hQ .ret _ a' w' I' _ hr' trivial fixB hk'
  | exit id =>
    intro B an K s r a w I hr hk R QQ hQ
    simp only [codeK] at hk
    exact wp_exit (hQ (.exit id) (.exit id) a w I s hr rfl (.refl R) hk)
  | ret =>
    intro B an K s r a w I hr hk R QQ hQ
    simp only [codeK] at hk
    exact wp_ret (hQ .ret .ret a w I s hr trivial (.refl R) hk)
  | _ =>
    intro B an K s r a w I hr hk R QQ hQ
    simp only [codeK] at hk
    cases hk
end Go.VM
/- Soundness, part 28: places that are lent to a callee. -/
namespace Go.VM

def sub (a b : CS) : CS := fun i j => a i j ∧ ¬ b i j
/-- what lies at a home's place is lent: how it comes back. 'x0': the value that is there, 'bx': behind an address; 'cut': where in it the lent part begins -/
structure Lent (w : World) (I : CS) (H : Home) (hh : HR) (p : Path) (r : Sh × TV) (t : Ty) (sh : Sh) (x : t.den) (bx : Bool) (put : t.den → r.2.1.den) (hc : HR) : Prop where
  ok : okP H.t H.x p
  look : (lookQ H.t H.x H.sh p).Is r
  sub : Sub hc.fp hh.fp
  rel : HRel w I ⟨sh, t, x, bx, true, true⟩ hc.cs hc.fp
  back : ∀ w' I' (y : t.den) fpn q d, Keep w w' (Go.VM.sub hh.fp hc.fp) → Keep w w' I → Sub I I' → HRel w' I' ⟨sh, t, y, bx, true, true⟩ hc.cs fpn → Disj fpn (Go.VM.sub hh.fp hc.fp) →
    (putQ H.t H.x H.sh p r.1 ⟨r.2.1, put y⟩).Is q → ∃ fp', HRel w' I' { H with sh := q.1, x := q.2, d := d } hh.cs fp' ∧ Sub fp' (un (Go.VM.sub hh.fp hc.fp) fpn)

theorem CellsAt_len {w : World} {b o : Nat} {c1 c2 : List Value} (h1 : CellsAt w b o c1) (h2 : CellsAt w b o c2) (hl : c1.length = c2.length) : c1 = c2 := by
  apply List.ext_getElem hl
  intro i hi1 hi2
  have := (h1 i _ (List.getElem?_eq_getElem hi1)).symm.trans (h2 i _ (List.getElem?_eq_getElem hi2))
  simpa using this
theorem HRel_io {w : World} {I : CS} {H : Home} {io d : Bool} {cs : List Value} {fp : CS} (h : HRel w I H cs fp) : HRel w I { H with io := io, d := d } cs fp := by
  unfold HRel at h ⊢; exact h
theorem getD_mid {w : World} {t : Ty} {b o : Nat} {cs ci : List Value} : spl t cs [] ci = ci := by cases t <;> rfl

/-- a place behind an address is lent -/
theorem lend_io {w : World} {I : CS} {H : Home} {hh : HR} {p : Path} {r : Sh × TV} {b o : Nat} {csp0 : List Value} {S : CS} (h : HRel w I H hh.cs hh.fp) (ok : okP H.t H.x p) (hl : (lookQ H.t H.x H.sh p).Is r) (hw : wrP H.t H.sh p = true)
    (hloc : LocH w S H hh.cs p (some (b, o), csp0)) : ∃ fpc, Lent w I H hh p r r.2.1 r.1 r.2.2 true id ⟨[.slice (some ⟨b, o, none⟩) 1 1], fpc⟩ := by
  have hd := loc_deref h ok hloc
  obtain ⟨loc, csp, fpp, fr, k1, k2, k3, k4, k5, k6, k7⟩ := focusH h ok hl hw
  cases LocH_det hloc k1
  obtain ⟨B, O, e1, e2⟩ := k6 hd
  cases e1
  have hlen := RepO_len k2
  have hcell : CellsAt w b o csp0 := fun j v hv => by rw [(e2 j (List.getElem?_eq_some_iff.1 hv).1).1]; exact hv
  refine ⟨un fpp (rng b o r.2.1.size), ⟨ok, hl, ?_, ?_, ?_⟩⟩
  · rintro b' o' (x | x)
    · exact k3 _ _ x
    · obtain ⟨j, hj, rfl, rfl⟩ := rng_iff.1 x
      exact k4 _ _ (e2 j (by omega)).2.2
  · simp only [HRel, RepO]
    refine ⟨_, 1, 1, rfl, rfl, ⟨Nat.le_refl _, by simp [maxLen]⟩, b, o, fun i => if i = 0 then fpp else non, .inr rfl, ?_, ?_, ?_, ?_⟩
    · intro k hk
      simp only [cond_true, Nat.one_mul] at hk
      have hk' : k < csp0.length := by omega
      obtain ⟨g1, g2, _⟩ := e2 k hk'
      exact ⟨⟨_, g1.trans (List.getElem?_eq_getElem hk')⟩, g2, .inr (rng_iff.2 ⟨k, hk, rfl, rfl⟩)⟩
    · intro i y hy
      have hi : i = 0 := by have := (List.getElem?_eq_some_iff.1 hy).1; simpa using this
      subst hi
      simp at hy
      subst hy
      exact ⟨csp0, hlen, by simpa using hcell, by simpa using k2⟩
    · intro i
      by_cases hi : i = 0
      · subst hi
        simp only [if_pos rfl]
        refine ⟨fun b o x => .inl x, fun k hk x => ?_⟩
        simp only [cond_true, Nat.one_mul] at hk
        exact k5 _ _ x (e2 k (by omega)).2.2
      · simp only [if_neg hi]; exact ⟨fun _ _ h => h.elim, fun _ _ h => h⟩
    · intro i j hij b o x y
      by_cases hi : i = 0
      · simp only [if_neg (show ¬ j = 0 by omega)] at y; exact y
      · simp only [if_neg hi] at x; exact x
  · intro w' I' y fpn q d hk hI hs hrel hdis hq
    simp only [HRel] at hrel
    simp only [RepO] at hrel
    obtain ⟨a, len, cap, q1, q2, q3, b2, off2, fs, q4, g1, g2, g3, g4⟩ := hrel
    simp only [List.cons.injEq, Value.slice.injEq, and_true] at q1
    obtain ⟨rfl, rfl, rfl⟩ := q1
    rcases q4 with q4 | q4
    · cases q4
    simp only [Option.some.injEq, Addr.mk.injEq, and_true] at q4
    obtain ⟨rfl, rfl⟩ := q4
    simp only [cond_true, Nat.one_mul] at g1 g3
    obtain ⟨ci, l1, c, rep⟩ := g2 0 y rfl
    simp only [Nat.zero_mul, Nat.add_zero] at c
    have fpnOwn : ∀ j, j < r.2.1.size → fpn b (o + j) := fun j hj => (g1 j hj).2.2
    have fsOut : ∀ b' o', fs 0 b' o' → ¬ rng b o r.2.1.size b' o' := by
      intro b' o' x hx
      obtain ⟨j, hj, rfl, rfl⟩ := rng_iff.1 hx
      exact (g3 0).2 j hj x
    have frOut : ∀ b' o', fr b' o' → ¬ rng b o r.2.1.size b' o' → Go.VM.sub hh.fp (un fpp (rng b o r.2.1.size)) b' o' := fun b' o' x n => ⟨k4 _ _ x, fun y => y.elim (fun y => k5 _ _ y x) n⟩
    obtain ⟨fp', m1, m2⟩ := k7 w' I' r.1 y ci (fs 0) q d hq hI hs (by rw [l1, hlen]) rep (fun b' o' x z => by
        by_cases hx : rng b o r.2.1.size b' o'
        · exact fsOut _ _ x hx
        · exact hdis _ _ ((g3 0).1 _ _ x) (frOut _ _ z hx)) (fun hf => by rw [hd] at hf; cases hf) (fun _ b3 o3 hbo => by
        cases hbo
        refine ⟨fun b' o' x n => hk _ _ (frOut _ _ x (by rw [← l1]; exact n)), c, fun j hj => (g1 j (by omega)).2.1⟩)
    have hspl : splH H hh.cs p ci = hh.cs := by
      unfold splH
      cases hb : H.bx with
      | true => rfl
      | false =>
        simp only
        unfold HRel at h
        rw [hb] at h
        exact spl_deref _ ok (by simpa [derefH, hb] using hd) (RepO_len h)
    rw [hspl] at m1
    refine ⟨fp', m1, fun b' o' x => (m2 _ _ x).elim (fun x => ?_) fun x => .inr ((g3 0).1 _ _ x)⟩
    by_cases hx : rng b o r.2.1.size b' o'
    · obtain ⟨j, hj, rfl, rfl⟩ := rng_iff.1 hx
      exact .inr (fpnOwn j hj)
    · exact .inl (frOut _ _ x hx)
theorem splice_len {α : Type} (l m : List α) (lo : Nat) (h : lo + m.length ≤ l.length) : (splice l lo m).length = l.length := by
  simp only [splice, List.length_append, List.length_take, List.length_drop]; omega
theorem splice_get {α : Type} (l m : List α) (lo i : Nat) (h : lo + m.length ≤ l.length) : (splice l lo m)[i]? = if lo ≤ i ∧ i < lo + m.length then m[i - lo]? else l[i]? := by
  have hl : (l.take lo).length = lo := by rw [List.length_take]; omega
  unfold splice
  split
  · rename_i hi
    rw [List.getElem?_append_left (by rw [List.length_append, hl]; omega), List.getElem?_append_right (by omega), hl]
  · rename_i hi
    by_cases h2 : i < lo
    · rw [List.getElem?_append_left (by rw [List.length_append, hl]; omega), List.getElem?_append_left (by omega), List.getElem?_take_of_lt h2]
    · rw [List.getElem?_append_right (by rw [List.length_append, hl]; omega), List.getElem?_drop, List.length_append, hl]
      congr 1; omega

/-- a part of a slice is lent, and comes back -/
theorem sl_part {w : World} {I : CS} {e : Ty} {u : Sh} {room : Bool} {l : List e.den} {a : Option Addr} {len cap lo hi : Nat} {f : CS} (h : SlO w (fun _ y c f => RepO w I e u y c f) room e.size l [.slice a len cap] f) (h1 : lo ≤ hi) (h2 : hi ≤ len)
    {ad : Option Addr} (had : cap = lo ∨ ad = a.map (·.add (lo * e.size))) :
    ∃ fpc : CS, Sub fpc f ∧ SlO w (fun _ y c f => RepO w I e u y c f) false e.size ((l.drop lo).take (hi - lo)) [.slice ad (hi - lo) (cap - lo)] fpc ∧
      ∀ w' I' (y : List e.den) fpn, Keep w w' (Go.VM.sub f fpc) → Keep w w' I → Sub I I' → SlO w' (fun _ y c f => RepO w' I' e u y c f) false e.size y [.slice ad (hi - lo) (cap - lo)] fpn → Disj fpn (Go.VM.sub f fpc) →
        ∃ fp', SlO w' (fun _ y c f => RepO w' I' e u y c f) room e.size (splice l lo y) [.slice a len cap] fp' ∧ Sub fp' (un (Go.VM.sub f fpc) fpn) := by
  obtain ⟨a', len', cap', e1, e2, e3, b, off, fs, e4, g1, g2, g3, g4⟩ := h
  cases e1
  have hl : ((l.drop lo).take (hi - lo)).length = hi - lo := by simp; omega
  have hmul : lo * e.size + (hi - lo) * e.size = hi * e.size := by rw [← Nat.add_mul]; congr 1; omega
  have hle : hi * e.size ≤ (bif room then cap else len) * e.size := Nat.mul_le_mul_right _ (by cases room <;> simp <;> omega)
  let fpc : CS := fun b' o' => rng b (off + lo * e.size) ((hi - lo) * e.size) b' o' ∨ ∃ i, lo ≤ i ∧ i < hi ∧ fs i b' o'
  have ownIn : ∀ b' o', rng b (off + lo * e.size) ((hi - lo) * e.size) b' o' → ∃ k, k < (bif room then cap else len) * e.size ∧ lo * e.size ≤ k ∧ k < hi * e.size ∧ b' = b ∧ o' = off + k := by
    rintro b' o' hx
    obtain ⟨j, hj, rfl, rfl⟩ := rng_iff.1 hx
    exact ⟨lo * e.size + j, by omega, by omega, by omega, rfl, by omega⟩
  have hadr : hi - lo = 0 ∨ ad = some ⟨b, off + lo * e.size, none⟩ := by
    by_cases hz : hi - lo = 0
    · exact .inl hz
    · right
      have h3 := had.resolve_left (by omega)
      have h4 := e4.resolve_left (by omega)
      rw [h3, h4]
      simp only [Option.map_some, Option.some.injEq]
      unfold Addr.add
      split
      · rename_i h; rw [h]; simp
      · rfl
  refine ⟨fpc, ?_, ?_, ?_⟩
  · rintro b' o' (x | ⟨i, _, _, x⟩)
    · obtain ⟨k, k1, _, _, rfl, rfl⟩ := ownIn _ _ x
      exact (g1 k k1).2.2
    · exact (g3 i).1 _ _ x
  · refine ⟨_, hi - lo, cap - lo, rfl, hl.symm, by omega, b, off + lo * e.size, fun k => if k < hi - lo then fs (lo + k) else non, ?_, ?_, ?_, ?_, ?_⟩
    · by_cases hz : cap = lo
      · exact .inl (by omega)
      · right
        have h3 := had.resolve_left hz
        have h4 := e4.resolve_left (by omega)
        rw [h3, h4]
        simp only [Option.map_some, Option.some.injEq]
        unfold Addr.add
        split
        · rename_i h; rw [h]; simp
        · rfl
    · intro k hk
      simp only [cond_false] at hk
      have := g1 (lo * e.size + k) (by omega)
      rw [← Nat.add_assoc] at this
      exact ⟨this.1, this.2.1, .inl (rng_iff.2 ⟨k, hk, rfl, rfl⟩)⟩
    · intro i y hy
      have hi' : i < hi - lo := by rw [← hl]; exact (List.getElem?_eq_some_iff.1 hy).1
      rw [List.getElem?_take_of_lt hi', List.getElem?_drop] at hy
      obtain ⟨ci, l1, c, r⟩ := g2 _ _ hy
      refine ⟨ci, l1, ?_, ?_⟩
      · rw [Nat.add_mul, ← Nat.add_assoc] at c; exact c
      · show RepO w I e u y ci (if i < hi - lo then fs (lo + i) else non)
        rw [if_pos hi']; exact r
    · intro k
      show Sub (if k < hi - lo then fs (lo + k) else non) fpc ∧ ∀ o, o < _ → ¬ (if k < hi - lo then fs (lo + k) else non) _ _
      by_cases hk : k < hi - lo
      · rw [if_pos hk]
        refine ⟨fun b' o' x => .inr ⟨lo + k, by omega, by omega, x⟩, fun o ho => ?_⟩
        simp only [cond_false] at ho
        have := (g3 (lo + k)).2 (lo * e.size + o) (by omega)
        rwa [← Nat.add_assoc] at this
      · rw [if_neg hk]; exact ⟨fun _ _ h => h.elim, fun _ _ h => h⟩
    · intro i j hij
      show Disj (if i < hi - lo then fs (lo + i) else non) (if j < hi - lo then fs (lo + j) else non)
      by_cases h3 : i < hi - lo
      · by_cases h4 : j < hi - lo
        · rw [if_pos h3, if_pos h4]; exact g4 _ _ (by omega)
        · rw [if_neg h4]; exact fun _ _ _ h => h
      · rw [if_neg h3]; exact fun _ _ h => h.elim
  · intro w' I' y fpn hk hI hs hy hd
    obtain ⟨a2, len2, cap2, q1, q2, q3, b2, off2, fs2, q4, p1, p2, p3, p4⟩ := hy
    simp only [List.cons.injEq, Value.slice.injEq, and_true] at q1
    obtain ⟨rfl, rfl, rfl⟩ := q1
    have hb2 : hi - lo = 0 ∨ (b2 = b ∧ off2 = off + lo * e.size) := by
      rcases hadr with h | h
      · exact .inl h
      · by_cases hz : hi - lo = 0
        · exact .inl hz
        · right
          have := q4.resolve_left (by omega)
          rw [h] at this
          simp only [Option.some.injEq, Addr.mk.injEq, and_true] at this
          exact ⟨this.1.symm, this.2.symm⟩
    have hin : ∀ i, lo ≤ i → i < hi → b2 = b ∧ off2 = off + lo * e.size := fun i h1 h2 => hb2.resolve_left (by omega)
    have hinZ : ∀ k, lo * e.size ≤ k → k < hi * e.size → b2 = b ∧ off2 = off + lo * e.size := fun k h1 h2 => by
      refine hb2.resolve_left fun hz => ?_
      have : hi = lo := by omega
      subst this; omega
    have slen : lo + y.length ≤ l.length := by omega
    let fs' : Nat → CS := fun i => if lo ≤ i ∧ i < hi then fs2 (i - lo) else fs i
    -- what was not lent is as it was
    have outOwn : ∀ k, k < (bif room then cap else len) * e.size → ¬ (lo * e.size ≤ k ∧ k < hi * e.size) → Go.VM.sub f fpc b (off + k) := by
      intro k hk hn
      refine ⟨(g1 k hk).2.2, fun x => ?_⟩
      rcases x with x | ⟨i, _, _, x⟩
      · obtain ⟨j, hj, _, h5⟩ := rng_iff.1 x
        exact hn ⟨by omega, by omega⟩
      · exact (g3 i).2 k hk x
    have outEl : ∀ i, ¬ (lo ≤ i ∧ i < hi) → Sub (fs i) (Go.VM.sub f fpc) := by
      intro i hn b' o' x
      refine ⟨(g3 i).1 _ _ x, fun z => ?_⟩
      rcases z with z | ⟨j, j1, j2, z⟩
      · obtain ⟨k, k1, _, _, rfl, rfl⟩ := ownIn _ _ z
        exact (g3 i).2 k k1 x
      · exact g4 i j (fun e => hn ⟨by omega, by omega⟩) _ _ x z
    have el2 : ∀ i, lo ≤ i → i < hi → Sub (fs2 (i - lo)) fpn := fun i _ _ => (p3 _).1
    have inOwn : ∀ k, lo * e.size ≤ k → k < hi * e.size → (∃ v, w'.cell? ⟨b, off + k, none⟩ = some v) ∧ w'.frozen? ⟨b, off + k, none⟩ = false ∧ fpn b (off + k) := by
      intro k h1 h2
      obtain ⟨rfl, rfl⟩ := hinZ k h1 h2
      have := p1 (k - lo * e.size) (by simp only [cond_false]; omega)
      rwa [show off + lo * e.size + (k - lo * e.size) = off + k by omega] at this
    let fp' : CS := un (Go.VM.sub f fpc) fpn
    refine ⟨fp', ⟨a, len, cap, rfl, by rw [splice_len _ _ _ slen]; exact e2, e3, b, off, fs', e4, ?_, ?_, ?_, ?_⟩, .refl _⟩
    · intro k hk2
      by_cases hx : lo * e.size ≤ k ∧ k < hi * e.size
      · obtain ⟨r1, r2, r3⟩ := inOwn k hx.1 hx.2
        exact ⟨r1, r2, .inr r3⟩
      · have ho := outOwn k hk2 hx
        obtain ⟨q1, q2, _⟩ := hk _ _ ho
        obtain ⟨⟨v, hv⟩, r2, _⟩ := g1 k hk2
        exact ⟨⟨v, q1.trans hv⟩, q2.trans r2, .inl ho⟩
    · intro i z hz
      rw [splice_get _ _ _ _ slen] at hz
      have hyl : lo + y.length = hi := by omega
      rw [hyl] at hz
      by_cases hx : lo ≤ i ∧ i < hi
      · rw [if_pos hx] at hz
        obtain ⟨rfl, rfl⟩ := hin i hx.1 hx.2
        obtain ⟨ci, l1, c, r⟩ := p2 _ _ hz
        refine ⟨ci, l1, ?_, ?_⟩
        · have : lo * e.size + (i - lo) * e.size = i * e.size := by rw [← Nat.add_mul]; congr 1; omega
          rw [Nat.add_assoc, this] at c; exact c
        · show RepO w' I' e u z ci (if lo ≤ i ∧ i < hi then fs2 (i - lo) else fs i)
          rw [if_pos hx]; exact r
      · rw [if_neg hx] at hz
        obtain ⟨ci, l1, c, r⟩ := g2 _ _ hz
        have hi3 : i < l.length := (List.getElem?_eq_some_iff.1 hz).1
        refine ⟨ci, l1, c.keep fun j hj => ?_, ?_⟩
        · have hlt : i * e.size + j < (bif room then cap else len) * e.size := by
            have h5 : i + 1 ≤ (bif room then cap else len) := by cases room <;> simp <;> omega
            have := Nat.mul_le_mul_right e.size h5
            rw [Nat.add_mul, Nat.one_mul] at this
            omega
          have := outOwn (i * e.size + j) hlt (fun ⟨h5, h6⟩ => by
            rcases Nat.lt_or_ge i lo with h7 | h7
            · have := Nat.mul_le_mul_right e.size (show i + 1 ≤ lo by omega)
              rw [Nat.add_mul, Nat.one_mul] at this
              omega
            · have := Nat.mul_le_mul_right e.size (show hi ≤ i by omega)
              omega)
          rw [← Nat.add_assoc] at this
          exact (hk _ _ this).1
        · show RepO w' I' e u z ci (if lo ≤ i ∧ i < hi then fs2 (i - lo) else fs i)
          rw [if_neg hx]
          exact RepO_keep hs hI (hk.sub (outEl i hx)) (.refl _) r
    · intro i
      show Sub (if lo ≤ i ∧ i < hi then fs2 (i - lo) else fs i) fp' ∧ ∀ o, o < _ → ¬ (if lo ≤ i ∧ i < hi then fs2 (i - lo) else fs i) _ _
      by_cases hx : lo ≤ i ∧ i < hi
      · rw [if_pos hx]
        refine ⟨fun b' o' x => .inr ((p3 _).1 _ _ x), fun k hk2 x => ?_⟩
        by_cases hy2 : lo * e.size ≤ k ∧ k < hi * e.size
        · obtain ⟨rfl, rfl⟩ := hin i hx.1 hx.2
          have := (p3 (i - lo)).2 (k - lo * e.size) (by simp only [cond_false]; omega)
          rw [show off + lo * e.size + (k - lo * e.size) = off + k by omega] at this
          exact this x
        · exact hd _ _ ((p3 _).1 _ _ x) (outOwn k hk2 hy2)
      · rw [if_neg hx]
        exact ⟨fun b' o' x => .inl (outEl i hx _ _ x), fun k hk2 => (g3 i).2 k hk2⟩
    · intro i j hij
      show Disj (if lo ≤ i ∧ i < hi then fs2 (i - lo) else fs i) (if lo ≤ j ∧ j < hi then fs2 (j - lo) else fs j)
      by_cases hx : lo ≤ i ∧ i < hi
      · rw [if_pos hx]
        by_cases hy2 : lo ≤ j ∧ j < hi
        · rw [if_pos hy2]; exact p4 _ _ (by omega)
        · rw [if_neg hy2]; exact fun b o x z => hd _ _ ((p3 _).1 _ _ x) (outEl j hy2 _ _ z)
      · rw [if_neg hx]
        by_cases hy2 : lo ≤ j ∧ j < hi
        · rw [if_pos hy2]; exact fun b o x z => hd _ _ ((p3 _).1 _ _ z) (outEl i hx _ _ x)
        · rw [if_neg hy2]; exact g4 i j hij
end Go.VM
/- Soundness, part 29: arguments. -/
namespace Go.VM

/-- cells with their own content at a place -/
theorem splH_same {w : World} {I S : CS} {H : Home} {cs : List Value} {fp : CS} {p : Path} {loc : Option (Nat × Nat)} {csp : List Value} (h : HRel w I H cs fp) (ok : okP H.t H.x p) (l : LocH w S H cs p (loc, csp)) : splH H cs p csp = cs := by
  unfold splH
  cases hb : H.bx with
  | true => rfl
  | false =>
    simp only
    unfold HRel at h
    rw [hb] at h
    have hlen := RepO_len h
    unfold LocH at l
    rw [hb] at l
    cases hd : deref H.t p with
    | true => exact spl_deref _ ok hd hlen
    | false =>
      obtain ⟨d, g1, g2, g3, g4⟩ := loc_inline ok hd hlen (LocIn_locP l)
      obtain ⟨n1, n2⟩ := g4 csp rfl
      apply List.ext_getElem?
      intro j
      rw [n2 j]
      split
      · rename_i hj
        rw [g3 (j - d) (by omega)]; congr 1; omega
      · rfl

theorem lend_sl {w : World} {I : CS} {H : Home} {hh : HR} {p : Path} {sh0 u : Sh} {e : Ty} {l : List e.den} {S : CS} {loc : Option (Nat × Nat)} {a ad : Option Addr} {len cap lo hi : Nat} (h : HRel w I H hh.cs hh.fp) (ok : okP H.t H.x p)
    (hl : (lookQ H.t H.x H.sh p).Is (sh0, ⟨.sl e, l⟩)) (hsh : sh0 = .own u ∨ sh0 = .len u) (hw : wrP H.t H.sh p = true) (hloc : LocH w S H hh.cs p (loc, [.slice a len cap])) (h1 : lo ≤ hi) (h2 : hi ≤ len) (had : cap = lo ∨ ad = a.map (·.add (lo * e.size))) :
    ∃ fpc, Lent w I H hh p (sh0, ⟨.sl e, l⟩) (.sl e) (.len u) ((l.drop lo).take (hi - lo)) false (fun y => splice l lo y) ⟨[.slice ad (hi - lo) (cap - lo)], fpc⟩ := by
  obtain ⟨loc', csp, fpp, fr, k1, k2, k3, k4, k5, k6, k7⟩ := focusH h ok hl hw
  cases LocH_det hloc k1
  have hroom : ∃ room, (∀ w' I' (z : List e.den) f', RepO w' I' (.sl e) sh0 z [.slice a len cap] f' ↔ SlO w' (fun _ y c f => RepO w' I' e u y c f) room e.size z [.slice a len cap] f') := by
    rcases hsh with rfl | rfl
    · exact ⟨true, fun w' I' z f' => by simp only [RepO]⟩
    · exact ⟨false, fun w' I' z f' => by simp only [RepO]⟩
  obtain ⟨room, hroom⟩ := hroom
  obtain ⟨fpc, s1, s2, s3⟩ := sl_part ((hroom _ _ _ _).1 k2) h1 h2 had
  have frOut : ∀ b' o', fr b' o' → Go.VM.sub hh.fp fpc b' o' := fun b' o' x => ⟨k4 _ _ x, fun y => k5 _ _ (s1 _ _ y) x⟩
  have fppOut : Sub (Go.VM.sub fpp fpc) (Go.VM.sub hh.fp fpc) := fun b' o' x => ⟨k3 _ _ x.1, x.2⟩
  refine ⟨fpc, ⟨ok, hl, fun b o x => k3 b o (s1 b o x), ?_, ?_⟩⟩
  · simp only [HRel, RepO]; exact s2
  · intro w' I' y fpn q d hk hI hs hrel hdis hq
    simp only [HRel] at hrel
    simp only [RepO] at hrel
    obtain ⟨fn, m0, m1⟩ := s3 w' I' y fpn (hk.sub fppOut) hI hs hrel (hdis.sub (.refl _) fppOut)
    obtain ⟨fp', n1, n2⟩ := k7 w' I' sh0 (splice l lo y) [.slice a len cap] fn q d hq hI hs rfl ((hroom _ _ _ _).2 m0) (fun b o x z => (m1 b o x).elim (fun x => k5 b o x.1 z) fun x => hdis b o x (frOut b o z)) (fun _ => hk.sub frOut) (fun hd b0 o0 hbo => by
      obtain ⟨B, O, e1, e2⟩ := k6 hd
      rw [e1] at hbo; cases hbo
      have sm : ∀ j, j < [Value.slice a len cap].length → Same w w' b0 (o0 + j) := fun j hj => hk _ _ (frOut _ _ (e2 j hj).2.2)
      refine ⟨fun b' o' x _ => hk _ _ (frOut _ _ x), fun j v hv => ?_, fun j hj => ?_⟩
      · have hj := (List.getElem?_eq_some_iff.1 hv).1
        rw [(sm j hj).1, (e2 j hj).1]; exact hv
      · rw [(sm j hj).2.1]; exact (e2 j hj).2.1)
    rw [splH_same h ok hloc] at n1
    exact ⟨fp', n1, fun b o x => (n2 b o x).elim (fun x => .inl (frOut b o x)) fun x => (m1 b o x).imp (fppOut b o) id⟩

/-- all of a slice is lent -/
theorem Lent.whole {w : World} {I : CS} {H : Home} {hh : HR} {p : Path} {sh0 u : Sh} {e : Ty} {l : List e.den} {a : Option Addr} {cap : Nat} {fpc : CS} (h : Lent w I H hh p (sh0, ⟨.sl e, l⟩) (.sl e) (.len u) l false (fun y => splice l 0 y) ⟨[.slice a l.length cap], fpc⟩) :
    Lent w I H hh p (sh0, ⟨.sl e, l⟩) (.sl e) (.len u) l false (fun y => y) ⟨[.slice a l.length cap], fpc⟩ := by
  refine ⟨h.ok, h.look, h.sub, h.rel, fun w' I' y fpn q d k1 k2 k3 k4 k5 k6 => ?_⟩
  have hlen : List.length y = List.length l := by
    have := k4
    simp only [HRel] at this
    simp only [RepO] at this
    obtain ⟨_, len, _, e1, e2, _⟩ := this
    simp only [List.cons.injEq, Value.slice.injEq, and_true] at e1
    have e2 : len = List.length y := e2
    rw [← e2]; exact e1.2.1.symm
  have hs : splice l 0 y = y := by
    unfold splice
    rw [List.take_zero, List.nil_append, Nat.zero_add, List.drop_eq_nil_of_le (by rw [hlen]; exact Nat.le_refl _), List.append_nil]
  refine h.back w' I' y fpn q d k1 k2 k3 k4 k5 ?_
  simp only [hs]; exact k6

/-! ### what is lent, in a row -/
inductive LK where
  | io | rf | sl (lo : Nat)
structure Lnd where
  id : Nat
  h : Nat
  p : Path
  k : LK
  sh : Sh
  t : Ty
def lendA (n c : Nat) : At → ArgT → List Lnd
  | .ptr h p, .io sh t => [⟨homeId n c, h, p, .io, sh, t⟩]
  | .rf h p, .ios sh t => [⟨homeId n c, h, p, .rf, sh, t⟩]
  | .rg h p lo _, .ios sh t => [⟨homeId n c, h, p, .sl lo, sh, t⟩]
  | _, _ => []
def lendAs (n c : Nat) : List At → ArgT → List Lnd
  | v :: r, .cons a b => lendA n c v a ++ lendAs n (c + 1) r b
  | _, _ => []
def lends (n : Nat) : List EV → ArgT → List Lnd
  | .at v :: r, .cons a b => lendA n 0 v a ++ lends (n + 1) r b
  | .fn _ caps :: r, .cons (.fn _ a) b => lendAs n 0 caps a ++ lends (n + 1) r b
  | _, _ => []
def Lnd.bx (l : Lnd) : Bool := match l.k with | .io => true | _ => false
/-- the value that is laid back -/
def backV : LK → (t : Ty) → t.den → t.den → Option t.den
  | .io, _, _, y => some y
  | .rf, _, _, y => some y
  | .sl lo, .sl _, x, y => some (splice x lo y)
  | .sl _, _, _, _ => none
/-- a home's place is lent as such a thing -/
def LentOK (w : World) (I : CS) (s : St) (hr : Nat → HR) (l : Lnd) (Hc : Home) (hc : HR) : Prop :=
  ∃ H r put, s.home? l.h = some H ∧ Hc.sh = l.sh ∧ Hc.t = l.t ∧ Hc.bx = l.bx ∧ Hc.io = true ∧ r.2.1 = Hc.t ∧ Lent w I H (hr l.h) l.p r Hc.t Hc.sh Hc.x Hc.bx put hc ∧
    ∀ (y : Hc.t.den) (x : Hc.t.den), r.2 = ⟨Hc.t, x⟩ → ∃ z, backV l.k Hc.t x y = some z ∧ (⟨r.2.1, put y⟩ : TV) = ⟨Hc.t, z⟩

theorem Lent.mono {w : World} {I I' : CS} {H : Home} {hh : HR} {p : Path} {r : Sh × TV} {t : Ty} {sh : Sh} {x : t.den} {bx : Bool} {put : t.den → r.2.1.den} {hc : HR} (hs : Sub I I') (h : Lent w I H hh p r t sh x bx put hc) : Lent w I' H hh p r t sh x bx put hc :=
  ⟨h.ok, h.look, h.sub, HRel_keep hs (Keep.refl _ _) (Keep.refl _ _) (.refl _) h.rel, fun w' I2 y fpn q d k1 k2 k3 => h.back w' I2 y fpn q d k1 (k2.sub hs) (hs.trans k3)⟩
theorem LentOK.mono {w : World} {I I' : CS} {s s' : St} {hr hr' : Nat → HR} {l : Lnd} {Hc : Home} {hc : HR} (hs : Sub I I') (h1 : s'.home? l.h = s.home? l.h) (h2 : hr' l.h = hr l.h) (h : LentOK w I s hr l Hc hc) : LentOK w I' s' hr' l Hc hc := by
  obtain ⟨H, r, put, a, b, c, d, e, f, g, k⟩ := h
  exact ⟨H, r, put, by rw [h1]; exact a, b, c, d, e, f, by rw [h2]; exact g.mono hs, k⟩

/-- some arguments: what becomes of the caller's state, and the homes that the callee finds -/
structure Pc (fz : Bool) (tmps : Array Value) (w : World) (I : CS) (s : St) (hr : Nat → HR) (I' : CS) (s' : St) (hr' : Nat → HR) (U : List (Nat × Bool)) (L : List Lnd) (M : List (Nat × Option Home)) (S : CS) (hrc : Nat → HR) : Prop where
  R : StRel w I' s' hr' tmps
  T : Trans w I s.home? hr w I' s'.home? hr'
  mild : Mild s s'
  same : ∀ g, (∀ q, q ∈ U → q.1 = g → q.2 = false ∧ fz = false) → s'.home? g = s.home? g ∧ hr' g = hr g
  seenF : fz = true → ∀ b o, ¬ S b o
  seen : ∀ b o, S b o → ∃ g G, (g, false) ∈ U ∧ s'.home? g = some G ∧ (hr' g).fp b o
  luse : ∀ l, l ∈ L → (l.h, true) ∈ U
  lall : ∀ l, l ∈ L → ∃ H, (l.id, some H) ∈ M ∧ H.io = true
  some : ∀ q, q ∈ M → ∃ H, q.2 = some H
  rel : ∀ id H, (id, Option.some H) ∈ M → HRel w I' H (hrc id).cs (hrc id).fp
  src : ∀ id H, (id, Option.some H) ∈ M → (∃ l, l ∈ L ∧ l.id = id ∧ LentOK w I' s' hr' l H (hrc id)) ∨ (H.bx = false ∧ H.io = false ∧ Air w I' (tot s'.home? hr') H.t H.sh H.x (hrc id).cs (hrc id).fp)
  old : ∀ id H, (id, Option.some H) ∈ M → Sub (hrc id).fp (tot s.home? hr)
  disj : ∀ id id' H H', (id, Option.some H) ∈ M → (id', Option.some H') ∈ M → id ≠ id' → Disj (hrc id).fp (hrc id').fp
  stay : ∀ a v, (∀ h, refA a = Option.some h → (h, true) ∉ U) → AtRel w I s.home? hr a v → AtRel w I' s'.home? hr' a v
def ValOK (w : World) (I' S : CS) (M : List (Nat × Option Home)) (hrc : Nat → HR) (a : At) (v : Value) : Prop :=
  ∀ (hm : Hm) (hrc2 : Nat → HR) (I2 : CS), Sub (un I' S) I2 → (∀ id H, (id, Option.some H) ∈ M → hrc2 id = hrc id) → (∀ id, id ∈ M.map (·.1) → ∀ H, hm id = Option.some H → (id, Option.some H) ∈ M) → AtRel w I2 hm hrc2 a v

theorem Pc.nil {fz : Bool} {tmps : Array Value} {w : World} {I : CS} {s : St} {hr : Nat → HR} (R : StRel w I s hr tmps) (hrc : Nat → HR) : Pc fz tmps w I s hr I s hr [] [] [] non hrc :=
  have no : ∀ {α : Type} {q : α} {C : Prop}, q ∈ ([] : List α) → C := fun h => absurd h List.not_mem_nil
  ⟨R, .refl .., .refl s, fun _ _ => ⟨rfl, rfl⟩, fun _ _ _ h => h, fun _ _ h => h.elim, fun _ h => no h, fun _ h => no h, fun _ h => no h, fun _ _ h => no h, fun _ _ h => no h, fun _ _ h => no h, fun _ _ _ _ h => no h, fun _ _ _ h => h⟩
theorem Pc.append {fz : Bool} {tmps : Array Value} {w : World} {I I1 I2 : CS} {s s1 s2 : St} {hr hr1 hr2 : Nat → HR} {U1 U2 : List (Nat × Bool)} {L1 L2 : List Lnd} {M1 M2 : List (Nat × Option Home)} {S1 S2 : CS} {c1 c2 : Nat → HR}
    (A : Pc fz tmps w I s hr I1 s1 hr1 U1 L1 M1 S1 c1) (B : Pc fz tmps w I1 s1 hr1 I2 s2 hr2 U2 L2 M2 S2 c2) (hU : ∀ q q', q ∈ U1 → q' ∈ U2 → q.1 = q'.1 → q.2 = false ∧ q'.2 = false) (hM : ∀ id, id ∈ M1.map (·.1) → id ∈ M2.map (·.1) → False)
    (R : StRel w I s hr tmps) :
    Pc fz tmps w I s hr I2 s2 hr2 (U1 ++ U2) (L1 ++ L2) (M1 ++ M2) (un S1 S2) (fun id => if id ∈ M1.map (·.1) then c1 id else c2 id) := by
  have T := A.T.trans B.T
  have m1 : ∀ {id H}, (id, Option.some H) ∈ M1 → id ∈ M1.map (·.1) := fun h => List.mem_map.2 ⟨_, h, rfl⟩
  have m2 : ∀ {id H}, (id, Option.some H) ∈ M2 → id ∉ M1.map (·.1) := fun h k => hM _ k (List.mem_map.2 ⟨_, h, rfl⟩)
  have e1 : ∀ {id H}, (id, Option.some H) ∈ M1 → (if id ∈ M1.map (·.1) then c1 id else c2 id) = c1 id := fun h => if_pos (m1 h)
  have e2 : ∀ {id H}, (id, Option.some H) ∈ M2 → (if id ∈ M1.map (·.1) then c1 id else c2 id) = c2 id := fun h => if_neg (m2 h)
  -- a lent home of the first ones is not touched by the others
  have keepL : ∀ l, l ∈ L1 → s2.home? l.h = s1.home? l.h ∧ hr2 l.h = hr1 l.h := fun l hl => B.same l.h fun q hq e => by
    have := (hU _ q (A.luse l hl) hq e.symm).1
    cases this
  have oldT : ∀ b o, tot s.home? hr b o → b < w.heap.size := R.1.oldT
  have old2 : ∀ id H, (id, Option.some H) ∈ M2 → Sub (c2 id).fp (tot s.home? hr) := fun id H h b o x => (A.T.tot b o (B.old id H h b o x)).elim (fun z => z) fun y => absurd (A.R.1.oldT b o (B.old id H h b o x)) (Nat.not_lt.2 y)
  have srcA : ∀ id H, (id, Option.some H) ∈ M1 → (∃ l, l ∈ L1 ∧ l.id = id ∧ LentOK w I2 s2 hr2 l H (c1 id)) ∨ (H.bx = false ∧ H.io = false ∧ Air w I2 (tot s2.home? hr2) H.t H.sh H.x (c1 id).cs (c1 id).fp) := fun id H h => by
    rcases A.src id H h with ⟨l, hl, e, k⟩ | ⟨b1, b2, air⟩
    · obtain ⟨k1, k2⟩ := keepL l hl
      exact .inl ⟨l, hl, e, k.mono B.T.sub k1 k2⟩
    · exact .inr ⟨b1, b2, air.step A.R.1.old B.T A.R.1.dI⟩
  -- what is lent lies within its home
  have inHome : ∀ {s : St} {hr : Nat → HR} {I : CS} {l : Lnd} {H : Home} {hc : HR}, LentOK w I s hr l H hc → ∃ G, s.home? l.h = Option.some G ∧ Sub hc.fp (hr l.h).fp := fun ⟨G, r, put, a, b, c, d, e, f, g, k⟩ => ⟨G, a, g.sub⟩
  have cross : ∀ id id' H H', (id, Option.some H) ∈ M1 → (id', Option.some H') ∈ M2 → Disj (c1 id).fp (c2 id').fp := by
    intro id id' H H' h h'
    rcases srcA id H h with ⟨l, hl, e, k⟩ | ⟨b1, b2, air⟩
    · obtain ⟨G, g1, g2⟩ := inHome k
      rcases B.src id' H' h' with ⟨l', hl', e', k'⟩ | ⟨b1', b2', air'⟩
      · obtain ⟨G', g1', g2'⟩ := inHome k'
        have hne : l.h ≠ l'.h := fun e => by
          have := (hU _ _ (A.luse l hl) (B.luse l' hl') e).1
          cases this
        exact (B.R.1.disj l.h l'.h G G' g1 g1' hne).sub g2 g2'
      · exact fun b o x y => air'.tot b o y ⟨l.h, G, g1, g2 b o x⟩
    · rcases A.src id H h with ⟨l, hl, e, k⟩ | ⟨_, _, air1⟩
      · obtain ⟨G, g1, g2⟩ := inHome k
        obtain ⟨k1, k2⟩ := keepL l hl
        exact fun b o x y => air.tot b o x ⟨l.h, G, by rw [k1]; exact g1, by rw [k2]; exact g2 b o x⟩
      · exact fun b o x y => air1.tot b o x (B.old id' H' h' b o y)
  refine ⟨B.R, T, A.mild.trans B.mild, ?_, ?_, ?_, ?_, ?_, ?_, ?_, ?_, ?_, ?_, fun a v hn h => B.stay a v (fun g e k => hn g e (List.mem_append_right _ k)) (A.stay a v (fun g e k => hn g e (List.mem_append_left _ k)) h)⟩
  · intro g hg
    obtain ⟨a1, a2⟩ := A.same g fun q hq => hg q (List.mem_append_left _ hq)
    obtain ⟨b1, b2⟩ := B.same g fun q hq => hg q (List.mem_append_right _ hq)
    exact ⟨b1.trans a1, b2.trans a2⟩
  · exact fun hf b o x => x.elim (A.seenF hf b o) (B.seenF hf b o)
  · rintro b o (x | x)
    · obtain ⟨g, G, h1, h2, h3⟩ := A.seen b o x
      have hfz : fz = false := by
        cases hf : fz with
        | false => rfl
        | true => exact absurd x (A.seenF hf b o)
      obtain ⟨b1, b2⟩ := B.same g fun q hq e => ⟨(hU _ q h1 hq e.symm).2, hfz⟩
      exact ⟨g, G, List.mem_append_left _ h1, by rw [b1]; exact h2, by rw [b2]; exact h3⟩
    · obtain ⟨g, G, h1, h2, h3⟩ := B.seen b o x
      exact ⟨g, G, List.mem_append_right _ h1, h2, h3⟩
  · exact fun l hl => (List.mem_append.1 hl).elim (fun h => List.mem_append_left _ (A.luse l h)) fun h => List.mem_append_right _ (B.luse l h)
  · exact fun l hl => (List.mem_append.1 hl).elim (fun h => by obtain ⟨H, q, i⟩ := A.lall l h; exact ⟨H, List.mem_append_left _ q, i⟩) fun h => by obtain ⟨H, q, i⟩ := B.lall l h; exact ⟨H, List.mem_append_right _ q, i⟩
  · exact fun q hq => (List.mem_append.1 hq).elim (A.some q) (B.some q)
  · intro id H h
    rcases List.mem_append.1 h with h | h
    · rw [e1 h]
      have kf : Keep w w (c1 id).fp := Keep.refl _ _
      exact HRel_keep B.T.sub (Keep.refl _ _) kf (.refl _) (A.rel id H h)
    · rw [e2 h]; exact B.rel id H h
  · intro id H h
    rcases List.mem_append.1 h with h | h
    · rw [e1 h]
      rcases srcA id H h with ⟨l, hl, e, k⟩ | k
      · exact .inl ⟨l, List.mem_append_left _ hl, e, k⟩
      · exact .inr k
    · rw [e2 h]
      rcases B.src id H h with ⟨l, hl, e, k⟩ | k
      · exact .inl ⟨l, List.mem_append_right _ hl, e, k⟩
      · exact .inr k
  · intro id H h
    rcases List.mem_append.1 h with h | h
    · rw [e1 h]; exact A.old id H h
    · rw [e2 h]; exact old2 id H h
  · intro id id' H H' h h' hne
    rcases List.mem_append.1 h with h | h <;> rcases List.mem_append.1 h' with h' | h'
    · rw [e1 h, e1 h']; exact A.disj id id' H H' h h' hne
    · rw [e1 h, e2 h']; exact cross id id' H H' h h'
    · rw [e2 h, e1 h']; exact (cross id' id H' H h' h).symm
    · rw [e2 h, e2 h']; exact B.disj id id' H H' h h' hne
theorem ValOK.left {w : World} {I1 I2 S1 S2 : CS} {M1 M2 : List (Nat × Option Home)} {c1 c2 : Nat → HR} {a : At} {v : Value} (h : ValOK w I1 S1 M1 c1 a v) (hs : Sub I1 I2) (hsome : ∀ q, q ∈ M1 → ∃ H, q.2 = Option.some H) (hM : ∀ id, id ∈ M1.map (·.1) → id ∈ M2.map (·.1) → False) :
    ValOK w I2 (un S1 S2) (M1 ++ M2) (fun id => if id ∈ M1.map (·.1) then c1 id else c2 id) a v := by
  intro hm hrc2 J hJ h1 h2
  refine h hm hrc2 J (fun b o x => hJ b o (x.elim (fun x => .inl (hs b o x)) fun x => .inr (.inl x))) (fun id H k => ?_) (fun id k H e => ?_)
  · rw [h1 id H (List.mem_append_left _ k)]
    exact if_pos (List.mem_map.2 ⟨_, k, rfl⟩)
  · rcases List.mem_append.1 (h2 id (by rw [List.map_append]; exact List.mem_append_left _ k) H e) with q | q
    · exact q
    · exact (hM id k (List.mem_map.2 ⟨_, q, rfl⟩)).elim
theorem ValOK.right {w : World} {I2 S1 S2 : CS} {M1 M2 : List (Nat × Option Home)} {c1 c2 : Nat → HR} {a : At} {v : Value} (h : ValOK w I2 S2 M2 c2 a v) (hM : ∀ id, id ∈ M1.map (·.1) → id ∈ M2.map (·.1) → False) :
    ValOK w I2 (un S1 S2) (M1 ++ M2) (fun id => if id ∈ M1.map (·.1) then c1 id else c2 id) a v := by
  intro hm hrc2 J hJ h1 h2
  refine h hm hrc2 J (fun b o x => hJ b o (x.elim .inl fun x => .inr (.inr x))) (fun id H k => ?_) (fun id k H e => ?_)
  · rw [h1 id H (List.mem_append_right _ k)]
    exact if_neg fun q => hM id q (List.mem_map.2 ⟨_, k, rfl⟩)
  · rcases List.mem_append.1 (h2 id (by rw [List.map_append]; exact List.mem_append_right _ k) H e) with q | q
    · exact (hM id (List.mem_map.2 ⟨_, q, rfl⟩) k).elim
    · exact q
end Go.VM
/- Soundness, part 30: one argument. -/
namespace Go.VM

theorem take_ne {s : St} {h : Nat} {p : Path} {r : Home × St} (hq : (s.take h p).Is r) {g : Nat} (hg : h ≠ g) : r.2.home? g = s.home? g := by
  simp only [St.take, Q.is_bind', Q.is_must] at hq
  obtain ⟨H, _, q, _, _, _, hq⟩ := hq
  cases hc : (p.isEmpty && !H.bx) with
  | true => simp only [hc, cond_true, Q.is_bind', Q.is_must, Q.is_pure] at hq; obtain ⟨_, _, rfl⟩ := hq; simp only [home?_setH, if_neg hg]
  | false => simp only [hc, cond_false, Q.is_bind', Q.is_pure] at hq; obtain ⟨_, _, rfl⟩ := hq; simp only [home?_mapA, home?_setH, if_neg hg]
theorem freeze_ne {s : St} {h : Nat} {p : Path} {r : TV × St} (hq : (s.freeze h p).Is r) {g : Nat} (hg : h ≠ g) : r.2.home? g = s.home? g := by
  simp only [St.freeze, Q.is_bind', Q.is_must, Q.is_of, Q.is_pure] at hq
  obtain ⟨_, _, _, _, _, _, _, _, _, _, rfl⟩ := hq
  simp only [home?_setH, if_neg hg]
theorem setAt_wr {s s' : St} {h : Nat} {p : Path} {v : TV} {H : Home} (hH : s.home? h = some H) (hq : (setAt s h p v).Is s') : wrP H.t H.sh p = true := by
  simp only [setAt, St.putP, Q.is_bind', homeQ_is] at hq
  obtain ⟨r, _, H', hH', q, hp, _⟩ := hq
  rw [hH] at hH'; cases hH'
  exact putQ_wr hp

/-- a boxed home's own address -/
theorem at_box {w : World} {I : CS} {H : Home} {b o : Nat} {fp : CS} (h : HRel w I H [.slice (some ⟨b, o, none⟩) 1 1] fp) (hb : H.bx = true) : okP H.t H.x [] ∧ ∃ b' o' csp, LocH w (un fp I) H [.slice (some ⟨b, o, none⟩) 1 1] [] (some (b', o'), csp) ∧ Value.pointer (some ⟨b, o, none⟩) = .pointer (some ⟨b', o', none⟩) := by
  unfold HRel at h
  rw [hb] at h
  obtain ⟨b', off, cap, ci, e1, l, _, _⟩ := base_box h
  cases e1
  refine ⟨okP_nil _ _, _, _, ci, ?_, rfl⟩
  unfold LocH
  rw [hb]
  exact l
theorem at_val {w : World} {I : CS} {H : Home} {cs : List Value} {fp : CS} (hb : H.bx = false) : okP H.t H.x [] ∧ ∃ loc csp t, LocH w (un fp I) H cs [] (loc, csp) ∧ typeAt H.t [] = some t ∧ toVal H.t cs = toVal t csp := by
  refine ⟨okP_nil _ _, none, cs, H.t, ?_, typeAt_nil _, rfl⟩
  unfold LocH
  rw [hb]
  cases H.t <;> simp [LocIn]

variable {fz : Bool} {tmps : Array Value} {w : World} {I : CS} {s : St} {hr : Nat → HR}
/-- an argument that brings no home of its own, and whose cells are but seen -/
theorem pc_seen {h : Nat} {U : List (Nat × Bool)} {S : CS} (R : StRel w I s hr tmps) (hrc : Nat → HR) (hf : fz = false) (hS : ∀ b o, S b o → ∃ g G, (g, false) ∈ U ∧ s.home? g = some G ∧ (hr g).fp b o) : Pc fz tmps w I s hr I s hr U [] [] S hrc := by
  have no : ∀ {α : Type} {q : α} {C : Prop}, q ∈ ([] : List α) → C := fun h => absurd h List.not_mem_nil
  exact ⟨R, .refl .., .refl s, fun _ _ => ⟨rfl, rfl⟩, fun h => (by rw [hf] at h; cases h), hS, fun _ h => no h, fun _ h => no h, fun _ h => no h, fun _ _ h => no h, fun _ _ h => no h, fun _ _ h => no h, fun _ _ _ _ h => no h, fun _ _ _ h => h⟩
theorem pc_froz {h : Nat} {I' : CS} {s' : St} {hr' : Nat → HR} (R' : StRel w I' s' hr' tmps) (T : Trans w I s.home? hr w I' s'.home? hr') (m : Mild s s') (hne : ∀ g, h ≠ g → s'.home? g = s.home? g ∧ hr' g = hr g) (hf : fz = true) (hst : ∀ a v, AtRel w I s.home? hr a v → AtRel w I' s'.home? hr' a v) (hrc : Nat → HR) : Pc fz tmps w I s hr I' s' hr' [(h, false)] [] [] non hrc := by
  have no : ∀ {α : Type} {q : α} {C : Prop}, q ∈ ([] : List α) → C := fun h => absurd h List.not_mem_nil
  refine ⟨R', T, m, fun g hg => hne g fun e => ?_, fun _ _ _ h => h, fun _ _ h => h.elim, fun _ h => no h, fun _ h => no h, fun _ h => no h, fun _ _ h => no h, fun _ _ h => no h, fun _ _ h => no h, fun _ _ _ _ h => no h, fun a v _ h => hst a v h⟩
  have := (hg (h, false) (List.mem_singleton.2 rfl) e).2
  rw [hf] at this; cases this
/-- a lent one -/
theorem pc_lent {l : Lnd} {H : Home} {hc : HR} (R : StRel w I s hr tmps) (k : LentOK w I s hr l H hc) (hrel : HRel w I H hc.cs hc.fp) (hsub : Sub hc.fp (tot s.home? hr)) : Pc fz tmps w I s hr I s hr [(l.h, true)] [l] [(l.id, some H)] non (fun _ => hc) := by
  have one : ∀ {id : Nat} {G : Home}, (id, some G) ∈ [(l.id, some H)] → id = l.id ∧ G = H := fun h => by
    have := List.mem_singleton.1 h
    simp only [Prod.mk.injEq, Option.some.injEq] at this
    exact this
  refine ⟨R, .refl .., .refl s, fun _ _ => ⟨rfl, rfl⟩, fun _ _ _ h => h, fun _ _ h => h.elim, fun l' h => ?_, fun l' h => ?_, fun q h => ?_, fun id G h => ?_, fun id G h => ?_, fun id G h => hsub, fun id id' G G' h h' ne => ?_, fun _ _ _ h => h⟩
  · rw [List.mem_singleton.1 h]; exact List.mem_singleton.2 rfl
  · rw [List.mem_singleton.1 h]
    obtain ⟨_, _, _, _, _, _, _, hio, _⟩ := k
    exact ⟨H, List.mem_singleton.2 rfl, hio⟩
  · rw [List.mem_singleton.1 h]; exact ⟨H, rfl⟩
  · rw [(one h).2]; exact hrel
  · obtain ⟨e1, e2⟩ := one h; subst e1 e2; exact .inl ⟨l, List.mem_singleton.2 rfl, rfl, k⟩
  · exact absurd ((one h).1.trans (one h').1.symm) ne
/-- one that is handed over -/
theorem pc_mv {h id0 : Nat} {I' : CS} {s' : St} {hr' : Nat → HR} {U : List (Nat × Bool)} {sh : Sh} {t : Ty} {x : t.den} {cs : List Value} {f : CS} (R' : StRel w I' s' hr' tmps) (T : Trans w I s.home? hr w I' s'.home? hr') (m : Mild s s')
    (hne : ∀ g, (∀ q, q ∈ U → q.1 = g → q.2 = false ∧ fz = false) → s'.home? g = s.home? g ∧ hr' g = hr g) (air : Air w I' (tot s'.home? hr') t sh x cs f) (hsub : Sub f (tot s.home? hr)) (hst : ∀ a v, (∀ h, refA a = some h → (h, true) ∉ U) → AtRel w I s.home? hr a v → AtRel w I' s'.home? hr' a v) :
    Pc fz tmps w I s hr I' s' hr' U [] [(id0, some ⟨sh, t, x, false, false, true⟩)] non (fun _ => ⟨cs, f⟩) := by
  have no : ∀ {α : Type} {q : α} {C : Prop}, q ∈ ([] : List α) → C := fun h => absurd h List.not_mem_nil
  have one : ∀ {id : Nat} {G : Home}, (id, some G) ∈ [(id0, some (⟨sh, t, x, false, false, true⟩ : Home))] → id = id0 ∧ G = ⟨sh, t, x, false, false, true⟩ := fun h => by
    have := List.mem_singleton.1 h
    simp only [Prod.mk.injEq, Option.some.injEq] at this
    exact this
  refine ⟨R', T, m, hne, fun _ _ _ h => h, fun _ _ h => h.elim, fun _ h => no h, fun _ h => no h, fun q h => ?_, fun id G h => ?_, fun id G h => ?_, fun id G h => hsub, fun id id' G G' h h' ne => ?_, hst⟩
  · rw [List.mem_singleton.1 h]; exact ⟨_, rfl⟩
  · rw [(one h).2]; exact air.rep
  · rw [(one h).2]; exact .inr ⟨rfl, rfl, air⟩
  · exact absurd ((one h).1.trans (one h').1.symm) ne

theorem lenOK_is {a b : Sh} (h : lenOK a b = true) : ∃ u, a = .len u ∧ (b = .own u ∨ b = .len u) := by
  cases a <;> cases b <;> simp only [lenOK, Bool.false_eq_true] at h
  · exact ⟨_, rfl, .inl (by rw [eqSh_eq h])⟩
  · exact ⟨_, rfl, .inr (by rw [eqSh_eq h])⟩
theorem sl_hdr {w : World} {I : CS} {e : Ty} {sh u : Sh} {l : List e.den} {v : Value} {f : CS} (h : RepO w I (.sl e) sh l [v] f) (hs : sh = .own u ∨ sh = .len u) : ∃ a cap b off, v = .slice a l.length cap ∧ l.length ≤ cap ∧ (cap = 0 ∨ a = some ⟨b, off, none⟩) := by
  rcases hs with rfl | rfl
  all_goals
    simp only [RepO] at h
    obtain ⟨a, len, cap, e1, e2, e3, b, off, _, e4, _⟩ := h
    simp only [List.cons.injEq, and_true] at e1
    subst e2
    exact ⟨a, cap, b, off, e1, e3.1, e4⟩
theorem asTV {v : TV} {t : Ty} {x : t.den} (h : v.as t = some x) : v = ⟨t, x⟩ := TV.as_some.1 h

theorem argA_sound {v : At} {a : ArgT} {x : a.den} {s' : St} {val : Value} (R : StRel w I s hr tmps) (hv : AtRel w I s.home? hr v val) (hq : (argA fz s v a).Is (x, s')) (n c : Nat) :
    ∃ I' hr' S hrc, Pc fz tmps w I s hr I' s' hr' (useA v a) (lendA n c v a) (enterA n c a x).2 S hrc ∧ ValOK w I' S (enterA n c a x).2 hrc (enterA n c a x).1 val ∧ (enterA n c a x).2.map (·.1) = idA n c a := by
  have hmem : ∀ {id : Nat} {H G : Home}, (id, some G) ∈ [(id, some H)] → G = H := fun h => by
    have := List.mem_singleton.1 h
    simp only [Prod.mk.injEq, Option.some.injEq, true_and] at this
    exact this
  have plain : ∀ {S : CS} {u : TV} {cs : List Value}, val = toVal u.1 cs → RepC w (un I S) u.1 u.2 cs → ∀ {I' : CS} {hrc : Nat → HR}, Sub I I' → ValOK w I' S [] hrc (.pv u) val := fun e r _ _ hs hm hrc2 I2 h2 _ _ => ⟨_, e, RepC_keep (fun b o x => h2 b o (x.imp (hs b o) id)) (Keep.refl _ _) r⟩
  cases v with
  | pv u =>
    cases a <;> simp only [argA, Q.is_fail] at hq
    simp only [Q.is_bind', Q.is_of, Q.is_pure, Prod.mk.injEq] at hq
    obtain ⟨y, hy, rfl, rfl⟩ := hq
    obtain ⟨cs, e, rc⟩ := hv
    have := asTV hy
    subst this
    exact ⟨I, hr, non, fun _ => ⟨[], non⟩, .nil R _, plain e (RepC_keep (fun _ _ x => .inl x) (Keep.refl _ _) rc) (.refl _), rfl⟩
  | cref u =>
    cases a <;> simp only [argA, Q.is_fail] at hq
    simp only [Q.is_bind', Q.is_of, Q.is_pure, Prod.mk.injEq] at hq
    obtain ⟨y, hy, rfl, rfl⟩ := hq
    have := asTV hy
    subst this
    refine ⟨I, hr, non, fun _ => ⟨[], non⟩, .nil R _, fun hm hrc2 I2 h2 _ _ => ?_, rfl⟩
    obtain ⟨b, o, cs, e, rc, k, i⟩ := hv
    exact ⟨b, o, cs, e, RepC_keep (fun b o x => h2 b o (.inl x)) (Keep.refl _ _) rc, k, fun j hj => h2 _ _ (.inl (i j hj))⟩
  | nils =>
    cases a <;> simp only [argA, Q.is_fail] at hq
    · simp only [Q.is_bind', Q.is_of, Q.is_pure, Prod.mk.injEq] at hq
      obtain ⟨y, hy, rfl, rfl⟩ := hq
      rename_i t
      cases t <;> simp only [nilOf] at hy <;> cases hy
      have e : val = .slice none 0 0 := hv
      exact ⟨I, hr, non, fun _ => ⟨[], non⟩, .nil R _, plain (u := ⟨.sl _, []⟩) (cs := [.slice none 0 0]) (by rw [e, toVal_one rfl]) (RepC_nil ..) (.refl _), rfl⟩
    · simp only [Q.is_bind', Q.is_of, Q.is_must, Q.is_pure, Prod.mk.injEq] at hq
      obtain ⟨y, hy, _, hle, rfl, rfl⟩ := hq
      rename_i sh t _
      cases t <;> simp only [nilOf] at hy <;> cases hy
      rename_i e
      have ev : val = .slice none 0 0 := hv
      have rep : RepO w I (.sl e) sh ([] : List e.den) [.slice none 0 0] non := by
        obtain ⟨z, f', z1, z2, _, r⟩ := RepO_le hle (RepO_deep w I non (.sl e))
        exact RepO_sub (fun b o x => x.elim (fun q => q) fun y => (z1 b o y).elim) z2 r
      refine ⟨I, hr, non, _, pc_mv (h := 0) (id0 := homeId n c) R (.refl ..) (.refl s) (fun _ _ => ⟨rfl, rfl⟩) ⟨rep, fun _ _ h => h.elim, fun _ _ h => h.elim, fun _ _ h => h.elim⟩ (fun _ _ h => h.elim) (fun _ _ _ h => h), fun hm hrc2 I2 h2 h3 h4 => ?_, rfl⟩
      intro H hH
      have hG := hmem (h4 (homeId n c) (by simp [enterA]) H hH)
      subst hG
      have := at_val (w := w) (I := I2) (H := ⟨sh, .sl e, [], false, false, true⟩) (cs := [.slice none 0 0]) (fp := non) rfl
      rw [h3 (homeId n c) _ (List.mem_singleton.2 rfl), ev]
      rw [toVal_one rfl] at this
      exact this
  | dead => cases a <;> simp only [argA, Q.is_fail] at hq
  | ptr h p =>
    cases a <;> simp only [argA, Q.is_fail] at hq
    rename_i sh t
    simp only [Q.is_bind', Q.is_of, Q.is_must, Q.is_pure, Prod.mk.injEq, look_is] at hq
    obtain ⟨r, ⟨H, hH, hl⟩, y, hy, _, hsh, _, hst, rfl, rfl⟩ := hq
    obtain ⟨ok, b, o, csp, l1, ev⟩ := hv H hH
    have hw := setAt_wr hH hst
    obtain ⟨fpc, L⟩ := lend_io (hh := hr h) (R.1.home h H hH) ok hl hw l1
    obtain ⟨shr, tv⟩ := r
    have := asTV hy
    subst this
    have hsh := eqSh_eq hsh
    subst hsh
    let Hc : Home := ⟨sh, t, y, true, true, true⟩
    have lok : LentOK w I s hr ⟨homeId n c, h, p, .io, sh, t⟩ Hc ⟨[.slice (some ⟨b, o, none⟩) 1 1], fpc⟩ := ⟨H, (sh, ⟨t, y⟩), id, hH, rfl, rfl, rfl, rfl, rfl, L, fun z x _ => ⟨z, rfl, rfl⟩⟩
    refine ⟨I, hr, non, _, pc_lent R lok L.rel (fun b o x => ⟨h, H, hH, L.sub b o x⟩), fun hm hrc2 I2 h2 h3 h4 => ?_, rfl⟩
    intro G hG
    have := hmem (h4 (homeId n c) (by simp [enterA]) G hG)
    subst this
    rw [h3 (homeId n c) _ (List.mem_singleton.2 rfl), ev]
    have hrel : HRel w I2 Hc [.slice (some ⟨b, o, none⟩) 1 1] fpc := HRel_keep (fun b o x => h2 b o (.inl x)) (Keep.refl _ _) (Keep.refl _ _) (.refl _) L.rel
    exact at_box hrel rfl
  | rf h p =>
    cases a <;> simp only [argA, Q.is_fail] at hq
    · rename_i t
      cases hfz : fz with
      | false =>
        rw [hfz] at hq
        simp only [cond_false, Q.is_bind', Q.is_of, Q.is_pure, Prod.mk.injEq, seeQ_is] at hq
        obtain ⟨u, ⟨H, sh, hH, hl, hw⟩, y, hy, rfl, rfl⟩ := hq
        obtain ⟨ok, loc, csp, t', l1, ty1, ev⟩ := hv H hH
        obtain ⟨fpp, rep, sf⟩ := look_home R hH ok hl l1
        have := asTV hy
        subst this
        have := look_type2 hl ty1
        simp only at this
        subst this
        have rc : RepC w (un I (hr h).fp) t y csp := RepC_keep (fun b o x => x.imp id (sf b o)) (Keep.refl _ _) (RepO_whole hw rep)
        exact ⟨I, hr, (hr h).fp, fun _ => ⟨[], non⟩, pc_seen (h := 0) R _ rfl (fun b o x => ⟨h, H, List.mem_singleton.2 rfl, hH, x⟩), plain ev rc (.refl _), rfl⟩
      | true =>
        rw [hfz] at hq
        simp only [cond_true, Q.is_bind', Q.is_of, Q.is_pure, Prod.mk.injEq] at hq
        obtain ⟨u, hf, y, hy, rfl, rfl⟩ := hq
        obtain ⟨H, hH, I', hr', R', T', hcs, _, kev, k⟩ := freeze_sound R hf
        obtain ⟨ok, loc, csp, t', l1, ty1, ev⟩ := hv H hH
        obtain ⟨ty', rep⟩ := k ok loc csp _ l1
        rw [ty1] at ty'
        cases ty'
        have := asTV hy
        rw [this] at rep ev
        exact ⟨I', hr', non, fun _ => ⟨[], non⟩, pc_froz R' T' (freeze_mild hf) (fun g hg => ⟨freeze_ne hf hg, hcs.2 g hg⟩) rfl (fun a v h => kev (fun _ => none) (.at a) v h) _, fun hm hrc2 I2 h2 _ _ => ⟨csp, ev, RepC_keep (fun b o x => h2 b o (.inl x)) (Keep.refl _ _) rep⟩, rfl⟩
    · rename_i sh t
      simp only [Q.is_bind', Q.is_of, Q.is_must, Q.is_pure, Prod.mk.injEq, look_is] at hq
      obtain ⟨r, ⟨H, hH, hl⟩, y, hy, _, hsh, _, hst, rfl, rfl⟩ := hq
      obtain ⟨ok, loc, csp, t', l1, ty1, ev⟩ := hv H hH
      have hw := setAt_wr hH hst
      obtain ⟨shr, tv⟩ := r
      have := asTV hy
      subst this
      have := look_type2 hl ty1
      simp only at this
      subst this
      obtain ⟨u, rfl, hu⟩ := lenOK_is hsh
      obtain ⟨fpp, rep, sf⟩ := look_home R hH ok hl l1
      have hsl : ∃ e, t = .sl e := by
        rcases hu with hu | hu <;> rw [hu] at rep <;> cases t <;> simp only [RepO] at rep <;> exact ⟨_, rfl⟩
      obtain ⟨e, rfl⟩ := hsl
      have hcsp := locSl rep rfl ev
      subst hcsp
      obtain ⟨a, cap, b, off, e1, e2, e3⟩ := sl_hdr rep hu
      subst e1
      have had : cap = 0 ∨ a = a.map (·.add (0 * e.size)) := e3.imp id fun h => by rw [h]; simp [Addr.add_mid]
      have hL := lend_sl (hh := hr h) (lo := 0) (hi := List.length y) (ad := a) (R.1.home h H hH) ok hl hu hw l1 (Nat.zero_le _) (Nat.le_refl _) had
      simp only [Nat.sub_zero, List.drop_zero, List.take_length] at hL
      obtain ⟨fpc, L⟩ := hL
      let Hc : Home := ⟨.len u, .sl e, y, false, true, true⟩
      have lok : LentOK w I s hr ⟨homeId n c, h, p, .rf, .len u, .sl e⟩ Hc ⟨[.slice a (List.length y) cap], fpc⟩ := ⟨H, (shr, ⟨.sl e, y⟩), _, hH, rfl, rfl, rfl, rfl, rfl, L.whole, fun z x q => by cases q; exact ⟨_, rfl, rfl⟩⟩
      refine ⟨I, hr, non, _, pc_lent R lok L.rel (fun b o x => ⟨h, H, hH, L.sub b o x⟩), fun hm hrc2 I2 h2 h3 h4 => ?_, rfl⟩
      intro G hG
      have := hmem (h4 (homeId n c) (by simp [enterA]) G hG)
      subst this
      rw [h3 (homeId n c) _ (List.mem_singleton.2 rfl)]
      have := at_val (w := w) (I := I2) (H := Hc) (cs := [.slice a (List.length y) cap]) (fp := fpc) rfl
      rw [toVal_one rfl] at this
      rw [ev, toVal_one rfl]
      exact this
    · rename_i sh t
      simp only [Q.is_bind', Q.is_of, Q.is_must, Q.is_pure, Prod.mk.injEq] at hq
      obtain ⟨r, ht, y, hy, _, hle, rfl, rfl⟩ := hq
      obtain ⟨H, hH, k⟩ := take_air R ht
      obtain ⟨ok, loc, csp, t', l1, ty1, ev⟩ := hv H hH
      obtain ⟨hr', f, R', T', ty', air, sf, hcs⟩ := k ok loc csp _ l1
      rw [ty1] at ty'
      obtain ⟨⟨sh1, t1, x1, bx1, io1, d1⟩, s1⟩ := r
      simp only at hle ty' air hy
      have := asTV hy
      cases this
      cases ty'
      obtain ⟨z, f', z1, z2, z3, rep⟩ := RepO_le hle air.rep
      obtain ⟨R2, T2⟩ := freeze_air R' (fun b o x => air.tot b o (z1 b o x)) (fun b o x => air.old b o (z1 b o x)) T' (fun b o x => .inl (sf b o (z1 b o x)))
      refine ⟨un I z, hr', non, _, pc_mv (h := 0) (id0 := homeId n c) R2 T2 (take_mild ht).1 (fun g hg => ?_) ⟨rep, fun b o x => air.tot b o (z2 b o x), fun b o x y => y.elim (air.imm b o (z2 b o x)) fun y => z3 b o y x, fun b o x => air.old b o (z2 b o x)⟩ (fun b o x => sf b o (z2 b o x)) (fun a v hn ha => ?_), fun hm hrc2 I2 h2 h3 h4 => ?_, rfl⟩
      · have hne : h ≠ g := fun e => by
          have := (hg (h, true) (List.mem_singleton.2 rfl) e).1
          cases this
        exact ⟨take_ne ht hne, hcs.2 g hne⟩
      · refine AtRel_stay (fun b o x => .inl x) (Keep.refl _ _) (fun g hg => ?_) ha
        have hne : h ≠ g := fun e => hn g hg (by rw [e]; exact List.mem_singleton.2 rfl)
        cases hG : s.home? g with
        | none => exact .inl ((take_ne ht hne).trans hG)
        | some G => exact .inr ⟨G, G, hG, (take_ne ht hne).trans hG, rfl, rfl, by rw [hcs.2 g hne], Keep.refl _ _, by rw [hcs.2 g hne]; exact fun b o x => x.elim .inl fun y => .inr (.inl y)⟩
      · intro G hG
        have := hmem (h4 (homeId n c) (by simp [enterA]) G hG)
        subst this
        rw [h3 (homeId n c) _ (List.mem_singleton.2 rfl), ev]
        exact at_val rfl
  | rg h p lo hi =>
    cases a <;> simp only [argA, Q.is_fail] at hq
    · rename_i t
      cases hfz : fz with
      | false =>
        rw [hfz] at hq
        simp only [cond_false, Q.is_bind', Q.is_of, Q.is_pure, Prod.mk.injEq, seeQ_is] at hq
        obtain ⟨u, ⟨H, sh, hH, hl, hw⟩, y, hy, z, hz, rfl, rfl⟩ := hq
        obtain ⟨ok, hlo, loc, ad, len, cap, e, l1, ty1, hhi, hcap, ad', ev, had⟩ := hv H hH
        obtain ⟨fpp, rep, sf⟩ := look_home R hH ok hl l1
        have := asTV hy
        subst this
        have := look_type2 hl ty1
        simp only at this
        subst this
        simp only [cutOf, Option.some.injEq] at hz
        subst hz
        have rc : RepC w (un I (hr h).fp) (.sl e) ((y.drop lo).take (hi - lo) : List e.den) [.slice ad' (hi - lo) (cap - lo)] := RepC_cut (RepC_keep (fun b o x => x.imp id (sf b o)) (Keep.refl _ _) (RepO_whole hw rep)) hlo hhi had
        exact ⟨I, hr, (hr h).fp, fun _ => ⟨[], non⟩, pc_seen (h := 0) R _ rfl (fun b o x => ⟨h, H, List.mem_singleton.2 rfl, hH, x⟩), plain (u := ⟨.sl e, _⟩) (ev.trans (toVal_one rfl _).symm) rc (.refl _), rfl⟩
      | true =>
        rw [hfz] at hq
        simp only [cond_true, Q.is_bind', Q.is_of, Q.is_pure, Prod.mk.injEq] at hq
        obtain ⟨u, hf, y, hy, z, hz, rfl, rfl⟩ := hq
        obtain ⟨H, hH, I', hr', R', T', hcs, _, kev, k⟩ := freeze_sound R hf
        obtain ⟨ok, hlo, loc, ad, len, cap, e, l1, ty1, hhi, hcap, ad', ev, had⟩ := hv H hH
        obtain ⟨ty', rep⟩ := k ok loc _ _ l1
        rw [ty1] at ty'
        have hu := asTV hy
        obtain ⟨⟨ut, ux⟩, s1⟩ := u
        simp only at hu ty' rep
        cases hu
        cases ty'
        simp only [cutOf, Option.some.injEq] at hz
        subst hz
        exact ⟨I', hr', non, fun _ => ⟨[], non⟩, pc_froz R' T' (freeze_mild hf) (fun g hg => ⟨freeze_ne hf hg, hcs.2 g hg⟩) rfl (fun a v h => kev (fun _ => none) (.at a) v h) _, fun hm hrc2 I2 h2 _ _ => ⟨_, ev.trans (toVal_one rfl _).symm, RepC_keep (fun b o x => h2 b o (.inl x)) (Keep.refl _ _) (RepC_cut rep hlo hhi had)⟩, rfl⟩
    · rename_i sh t
      simp only [Q.is_bind', Q.is_of, Q.is_must, Q.is_pure, Prod.mk.injEq, look_is] at hq
      obtain ⟨r, ⟨H, hH, hl⟩, y, hy, z, hz, _, hsh, _, hst, rfl, rfl⟩ := hq
      obtain ⟨ok, hlo, loc, ad, len, cap, e, l1, ty1, hhi, hcap, ad', ev, had⟩ := hv H hH
      have hw := setAt_wr hH hst
      obtain ⟨shr, tv⟩ := r
      have := asTV hy
      subst this
      have := look_type2 hl ty1
      simp only at this
      subst this
      simp only [cutOf, Option.some.injEq] at hz
      subst hz
      obtain ⟨u, rfl, hu⟩ := lenOK_is hsh
      obtain ⟨fpc, L⟩ := lend_sl (hh := hr h) (R.1.home h H hH) ok hl hu hw l1 hlo hhi had
      let Hc : Home := ⟨.len u, .sl e, (y.drop lo).take (hi - lo), false, true, true⟩
      have lok : LentOK w I s hr ⟨homeId n c, h, p, .sl lo, .len u, .sl e⟩ Hc ⟨[.slice ad' (hi - lo) (cap - lo)], fpc⟩ := ⟨H, (shr, ⟨.sl e, y⟩), _, hH, rfl, rfl, rfl, rfl, rfl, L, fun z x q => by cases q; exact ⟨_, rfl, rfl⟩⟩
      refine ⟨I, hr, non, _, pc_lent R lok L.rel (fun b o x => ⟨h, H, hH, L.sub b o x⟩), fun hm hrc2 I2 h2 h3 h4 => ?_, rfl⟩
      intro G hG
      have := hmem (h4 (homeId n c) (by simp [enterA]) G hG)
      subst this
      rw [h3 (homeId n c) _ (List.mem_singleton.2 rfl)]
      have := at_val (w := w) (I := I2) (H := Hc) (cs := [.slice ad' (hi - lo) (cap - lo)]) (fp := fpc) rfl
      rw [toVal_one rfl] at this
      rw [ev]
      exact this
end Go.VM
/- Soundness, part 31: all arguments. -/
namespace Go.VM

theorem apart_app : ∀ {l m : List (Nat × Bool)}, apart (l ++ m) = true → apart l = true ∧ apart m = true ∧ ∀ q q', q ∈ l → q' ∈ m → q.1 = q'.1 → q.2 = false ∧ q'.2 = false
  | [], m, h => ⟨rfl, h, fun _ _ h => absurd h List.not_mem_nil⟩
  | (k, x) :: r, m, h => by
    simp only [List.cons_append, apart, List.all_append, Bool.and_eq_true] at h
    obtain ⟨⟨h1, h2⟩, h3⟩ := h
    obtain ⟨a1, a2, a3⟩ := apart_app h3
    refine ⟨by simp only [apart, Bool.and_eq_true]; exact ⟨h1, a1⟩, a2, fun q q' hq hq' e => ?_⟩
    rcases List.mem_cons.1 hq with rfl | hq
    · have := List.all_eq_true.1 h2 q' hq'
      simp only at e
      rw [beq_iff.2 e] at this
      simpa using this
    · exact a3 q q' hq hq' e
theorem nodupB_app : ∀ {l m : List Nat}, nodupB (l ++ m) = true → nodupB l = true ∧ nodupB m = true ∧ ∀ n, n ∈ l → n ∈ m → False
  | [], m, h => ⟨rfl, h, fun _ h => absurd h List.not_mem_nil⟩
  | k :: r, m, h => by
    simp only [List.cons_append, nodupB, List.all_append, Bool.and_eq_true] at h
    obtain ⟨⟨h1, h2⟩, h3⟩ := h
    obtain ⟨a1, a2, a3⟩ := nodupB_app h3
    refine ⟨by simp only [nodupB, Bool.and_eq_true]; exact ⟨h1, a1⟩, a2, fun n hn hm => ?_⟩
    rcases List.mem_cons.1 hn with rfl | hn
    · have := List.all_eq_true.1 h2 n hm
      rw [beq_iff.2 rfl] at this
      cases this
    · exact a3 n hn hm

theorem argA_use {fz : Bool} {s : St} {v : At} {a : ArgT} {r : a.den × St} (hq : (argA fz s v a).Is r) : ∀ h, refA v = some h → ∃ b, (h, b) ∈ useA v a := by
  intro h hr
  cases v <;> simp only [refA, reduceCtorEq, Option.some.injEq] at hr <;> subst hr <;> cases a <;> simp only [argA, Q.is_fail] at hq <;> exact ⟨_, List.mem_singleton.2 rfl⟩
theorem argAs_use {fz : Bool} : ∀ {l : List At} {s : St} {a : ArgT} {r : a.den × St}, (argAs fz s l a).Is r → ∀ v, v ∈ l → ∀ h, refA v = some h → ∃ b, (h, b) ∈ useAs l a
  | [], s, a, r, hq, v, hv, _, _ => absurd hv List.not_mem_nil
  | u :: l, s, a, r, hq, v, hv, h, hr => by
    cases a <;> simp only [argAs, Q.is_fail] at hq
    simp only [Q.is_bind', Q.is_pure] at hq
    obtain ⟨x, hx, y, hy, _⟩ := hq
    simp only [useAs]
    rcases List.mem_cons.1 hv with rfl | hv
    · obtain ⟨b, hb⟩ := argA_use hx h hr; exact ⟨b, List.mem_append_left _ hb⟩
    · obtain ⟨b, hb⟩ := argAs_use hy v hv h hr; exact ⟨b, List.mem_append_right _ hb⟩
def EV.ats : EV → List At
  | .at a => [a]
  | .tup l => l
  | .fn _ l => l
theorem args_use {fz : Bool} : ∀ {l : List EV} {s : St} {a : ArgT} {r : a.den × St}, (args fz s l a).Is r → ∀ e, e ∈ l → ∀ v, v ∈ e.ats → ∀ h, refA v = some h → ∃ b, (h, b) ∈ use l a
  | [], s, a, r, hq, v, hv, _, _, _, _ => absurd hv List.not_mem_nil
  | .tup _ :: l, s, a, r, hq, e, he, v, hv, h, hr => by cases a <;> simp only [args, Q.is_fail] at hq
  | .at u :: l, s, a, r, hq, e, he, v, hv, h, hr => by
    cases a <;> simp only [args, Q.is_fail] at hq
    simp only [Q.is_bind', Q.is_pure] at hq
    obtain ⟨x, hx, y, hy, _⟩ := hq
    simp only [use]
    rcases List.mem_cons.1 he with rfl | he
    · rw [List.mem_singleton.1 hv] at hr
      obtain ⟨b, hb⟩ := argA_use hx h hr; exact ⟨b, List.mem_append_left _ hb⟩
    · obtain ⟨b, hb⟩ := args_use hy e he v hv h hr; exact ⟨b, List.mem_append_right _ hb⟩
  | .fn f caps :: l, s, a, r, hq, e, he, v, hv, h, hr => by
    cases a <;> first | (simp only [args, Q.is_fail] at hq; done) | skip
    rename_i a b
    cases a <;> (try simp only [args, Q.is_fail] at hq)
    simp only [Q.is_bind', Q.is_pure] at hq
    obtain ⟨_, _, x, hx, y, hy, _⟩ := hq
    simp only [use]
    rcases List.mem_cons.1 he with rfl | he
    · obtain ⟨b, hb⟩ := argAs_use hx v hv h hr; exact ⟨b, List.mem_append_left _ hb⟩
    · obtain ⟨b, hb⟩ := args_use hy e he v hv h hr; exact ⟨b, List.mem_append_right _ hb⟩

variable {fz : Bool} {tmps : Array Value} {w : World}
def ValsOK (w : World) (I' S : CS) (M : List (Nat × Option Home)) (hrc : Nat → HR) : List At → List Value → Prop
  | [], [] => True
  | a :: l, v :: r => ValOK w I' S M hrc a v ∧ ValsOK w I' S M hrc l r
  | _, _ => False
theorem ValsOK.map {I1 I2 S1 S2 : CS} {M1 M2 : List (Nat × Option Home)} {c1 c2 : Nat → HR} (h : ∀ a v, ValOK w I1 S1 M1 c1 a v → ValOK w I2 S2 M2 c2 a v) : ∀ {l : List At} {vs : List Value}, ValsOK w I1 S1 M1 c1 l vs → ValsOK w I2 S2 M2 c2 l vs
  | [], [], _ => trivial
  | a :: l, v :: vs, ⟨h1, h2⟩ => ⟨h _ _ h1, h2.map h⟩
theorem AtsRel_mem {I I' : CS} {hm hm' : Hm} {hr hr' : Nat → HR} : ∀ {l : List At} {vs : List Value}, (∀ a v, a ∈ l → AtRel w I hm hr a v → AtRel w I' hm' hr' a v) → AtsRel w I hm hr l vs → AtsRel w I' hm' hr' l vs
  | [], [], _, _ => trivial
  | a :: l, v :: vs, h, ⟨h1, h2⟩ => ⟨h a v List.mem_cons_self h1, AtsRel_mem (fun b u hb => h b u (List.mem_cons_of_mem _ hb)) h2⟩
theorem some_of_mem {M : List (Nat × Option Home)} (h : ∀ q, q ∈ M → ∃ H, q.2 = Option.some H) {id : Nat} (k : id ∈ M.map (·.1)) : ∃ H, (id, Option.some H) ∈ M := by
  obtain ⟨q, hq, rfl⟩ := List.mem_map.1 k
  obtain ⟨H, e⟩ := h q hq
  exact ⟨H, by rw [← e]; exact hq⟩

theorem argAs_sound (n : Nat) : ∀ {caps : List At} {a : ArgT} {x : a.den} {I : CS} {s s' : St} {hr : Nat → HR} {vals : List Value} (c : Nat), StRel w I s hr tmps → AtsRel w I s.home? hr caps vals → (argAs fz s caps a).Is (x, s') → apart (useAs caps a) = true → nodupB (idCaps n c a) = true →
    ∃ I' hr' S hrc, Pc fz tmps w I s hr I' s' hr' (useAs caps a) (lendAs n c caps a) (enterCaps n c a x).2 S hrc ∧ ValsOK w I' S (enterCaps n c a x).2 hrc (enterCaps n c a x).1 vals ∧ (enterCaps n c a x).2.map (·.1) = idCaps n c a := by
  intro caps
  induction caps with
  | nil =>
    intro a x I s s' hr vals c R hv hq _ _
    cases a <;> simp only [argAs, Q.is_fail] at hq
    simp only [Q.is_ret, Prod.mk.injEq] at hq
    obtain ⟨_, rfl⟩ := hq
    cases vals with
    | nil => exact ⟨I, hr, non, fun _ => ⟨[], non⟩, .nil R _, trivial, rfl⟩
    | cons _ _ => exact hv.elim
  | cons v r ih =>
    intro a x I s s' hr vals c R hv hq hap hnd
    cases a <;> simp only [argAs, Q.is_fail] at hq
    rename_i a b
    simp only [Q.is_bind', Q.is_pure] at hq
    obtain ⟨x1, hx, y, hy, e⟩ := hq
    obtain ⟨x1, s1⟩ := x1
    obtain ⟨y, s2⟩ := y
    simp only [Prod.mk.injEq] at e
    obtain ⟨rfl, rfl⟩ := e
    cases vals with
    | nil => exact hv.elim
    | cons u vals =>
      obtain ⟨hv1, hv2⟩ := hv
      simp only [useAs] at hap
      simp only [idCaps] at hnd
      obtain ⟨ap1, ap2, ap3⟩ := apart_app hap
      obtain ⟨nd1, nd2, nd3⟩ := nodupB_app hnd
      obtain ⟨I1, hr1, S1, c1, P1, V1, M1⟩ := argA_sound R hv1 hx n c
      have hv2' : AtsRel w I1 s1.home? hr1 r vals := AtsRel_mem (fun a' v' ha' h => P1.stay a' v' (fun g hg hU => by
        obtain ⟨b', hb'⟩ := argAs_use hy a' ha' g hg
        have := (ap3 _ _ hU hb' rfl).1
        cases this) h) hv2
      obtain ⟨I2, hr2, S2, c2, P2, V2, M2⟩ := ih (c + 1) P1.R hv2' hy ap2 nd2
      have hM : ∀ id, id ∈ (enterA n c a x1).2.map (·.1) → id ∈ (enterCaps n (c + 1) b y).2.map (·.1) → False := fun id h1 h2 => nd3 id (by rw [← M1]; exact h1) (by rw [← M2]; exact h2)
      refine ⟨I2, hr2, un S1 S2, _, P1.append P2 ap3 hM R, ⟨V1.left P2.T.sub P1.some hM, V2.map fun a v h => h.right hM⟩, ?_⟩
      simp only [enterCaps, List.map_append, idCaps, M1, M2]

def EValOK (w : World) (I' S : CS) (M : List (Nat × Option Home)) (hrc : Nat → HR) (e : EV) (v : Value) : Prop :=
  ∀ (hm : Hm) (hrc2 : Nat → HR) (I2 : CS), Sub (un I' S) I2 → (∀ id H, (id, Option.some H) ∈ M → hrc2 id = hrc id) → (∀ id, id ∈ M.map (·.1) → ∀ H, hm id = Option.some H → (id, Option.some H) ∈ M) → EvRel w I2 hm hrc2 e v
theorem EValOK.left {I1 I2 S1 S2 : CS} {M1 M2 : List (Nat × Option Home)} {c1 c2 : Nat → HR} {a : EV} {v : Value} (h : EValOK w I1 S1 M1 c1 a v) (hs : Sub I1 I2) (hM : ∀ id, id ∈ M1.map (·.1) → id ∈ M2.map (·.1) → False) :
    EValOK w I2 (un S1 S2) (M1 ++ M2) (fun id => if id ∈ M1.map (·.1) then c1 id else c2 id) a v := by
  intro hm hrc2 J hJ h1 h2
  refine h hm hrc2 J (fun b o x => hJ b o (x.elim (fun x => .inl (hs b o x)) fun x => .inr (.inl x))) (fun id H k => ?_) (fun id k H e => ?_)
  · rw [h1 id H (List.mem_append_left _ k)]
    exact if_pos (List.mem_map.2 ⟨_, k, rfl⟩)
  · rcases List.mem_append.1 (h2 id (by rw [List.map_append]; exact List.mem_append_left _ k) H e) with q | q
    · exact q
    · exact (hM id k (List.mem_map.2 ⟨_, q, rfl⟩)).elim
theorem EValOK.right {I2 S1 S2 : CS} {M1 M2 : List (Nat × Option Home)} {c1 c2 : Nat → HR} {a : EV} {v : Value} (h : EValOK w I2 S2 M2 c2 a v) (hM : ∀ id, id ∈ M1.map (·.1) → id ∈ M2.map (·.1) → False) :
    EValOK w I2 (un S1 S2) (M1 ++ M2) (fun id => if id ∈ M1.map (·.1) then c1 id else c2 id) a v := by
  intro hm hrc2 J hJ h1 h2
  refine h hm hrc2 J (fun b o x => hJ b o (x.elim .inl fun x => .inr (.inr x))) (fun id H k => ?_) (fun id k H e => ?_)
  · rw [h1 id H (List.mem_append_right _ k)]
    exact if_neg fun q => hM id q (List.mem_map.2 ⟨_, k, rfl⟩)
  · rcases List.mem_append.1 (h2 id (by rw [List.map_append]; exact List.mem_append_right _ k) H e) with q | q
    · exact (hM id (List.mem_map.2 ⟨_, q, rfl⟩) k).elim
    · exact q
theorem ValsOK.ats {I' S : CS} {M : List (Nat × Option Home)} {hrc hrc2 : Nat → HR} {hm : Hm} {I2 : CS} (h1 : Sub (un I' S) I2) (h2 : ∀ id H, (id, Option.some H) ∈ M → hrc2 id = hrc id) (h3 : ∀ id, id ∈ M.map (·.1) → ∀ H, hm id = Option.some H → (id, Option.some H) ∈ M) :
    ∀ {l : List At} {vs : List Value}, ValsOK w I' S M hrc l vs → AtsRel w I2 hm hrc2 l vs
  | [], [], _ => trivial
  | a :: l, v :: vs, ⟨k1, k2⟩ => ⟨k1 hm hrc2 I2 h1 h2 h3, k2.ats h1 h2 h3⟩

def EvsRel (w : World) (I : CS) (hm : Hm) (hr : Nat → HR) : List EV → List Value → Prop
  | [], [] => True
  | a :: l, v :: r => EvRel w I hm hr a v ∧ EvsRel w I hm hr l r
  | _, _ => False
theorem EvsRel_mem {I I' : CS} {hm hm' : Hm} {hr hr' : Nat → HR} : ∀ {l : List EV} {vs : List Value}, (∀ e, e ∈ l → ∀ a v, a ∈ e.ats → AtRel w I hm hr a v → AtRel w I' hm' hr' a v) → EvsRel w I hm hr l vs → EvsRel w I' hm' hr' l vs
  | [], [], _, _ => trivial
  | e :: l, v :: vs, h, ⟨h1, h2⟩ => ⟨by
      have he := h e List.mem_cons_self
      cases e with
      | «at» a => exact he a v (List.mem_singleton.2 rfl) h1
      | tup l => obtain ⟨us, q, k⟩ := h1; exact ⟨us, q, AtsRel_mem (fun a v ha => he a v ha) k⟩
      | fn f l => obtain ⟨us, q, k⟩ := h1; exact ⟨us, q, AtsRel_mem (fun a v ha => he a v ha) k⟩, EvsRel_mem (fun e he => h e (List.mem_cons_of_mem _ he)) h2⟩

theorem enter_sl {N : Nat} {a b : ArgT} {n : Nat} {x : (ArgT.cons a b).den} : (enter N n (.cons a b) x).sl = (n, (enterEV n a x.1).1) :: (enter N (n + 1) b x.2).sl ∧ (enter N n (.cons a b) x).hm = (enterEV n a x.1).2 ++ (enter N (n + 1) b x.2).hm := ⟨rfl, rfl⟩
theorem enter_n {N : Nat} {a : ArgT} {n : Nat} {x : a.den} : (enter N n a x).n = N := by cases a <;> rfl

/-- all arguments of a call -/
theorem args_sound (N : Nat) : ∀ {evs : List EV} {a : ArgT} {x : a.den} {I : CS} {s s' : St} {hr : Nat → HR} {vals : List Value} (n : Nat), StRel w I s hr tmps → EvsRel w I s.home? hr evs vals → (args fz s evs a).Is (x, s') → apart (use evs a) = true → nodupB (ids n a) = true →
    ∃ I' hr' S hrc, Pc fz tmps w I s hr I' s' hr' (use evs a) (lends n evs a) (enter N n a x).hm S hrc ∧ (∀ k e, getL (enter N n a x).sl k = some e → n ≤ k ∧ ∃ v, vals[k - n]? = some v ∧ EValOK w I' S (enter N n a x).hm hrc e v) ∧ (enter N n a x).hm.map (·.1) = ids n a := by
  intro evs
  induction evs with
  | nil =>
    intro a x I s s' hr vals n R hv hq _ _
    cases a <;> simp only [args, Q.is_fail] at hq
    simp only [Q.is_ret, Prod.mk.injEq] at hq
    obtain ⟨_, rfl⟩ := hq
    exact ⟨I, hr, non, fun _ => ⟨[], non⟩, .nil R _, fun k e h => (by cases h), rfl⟩
  | cons ev r ih =>
    intro a x I s s' hr vals n R hv hq hap hnd
    cases vals with
    | nil => exact hv.elim
    | cons u vals =>
      obtain ⟨hv1, hv2⟩ := hv
      -- the head of the row, whatever it is
      have fin : ∀ {a b : ArgT} {x : (ArgT.cons a b).den} {I1 : CS} {s1 : St} {hr1 : Nat → HR} {U1 : List (Nat × Bool)} {L1 : List Lnd} {S1 : CS} {c1 : Nat → HR} {ids1 : List Nat}, Pc fz tmps w I s hr I1 s1 hr1 U1 L1 (enterEV n a x.1).2 S1 c1 → EValOK w I1 S1 (enterEV n a x.1).2 c1 (enterEV n a x.1).1 u →
          (enterEV n a x.1).2.map (·.1) = ids1 → (args fz s1 r b).Is (x.2, s') → apart (U1 ++ use r b) = true → nodupB (ids1 ++ ids (n + 1) b) = true →
          ∃ I' hr' S hrc, Pc fz tmps w I s hr I' s' hr' (U1 ++ use r b) (L1 ++ lends (n + 1) r b) (enter N n (.cons a b) x).hm S hrc ∧ (∀ k e, getL (enter N n (.cons a b) x).sl k = some e → n ≤ k ∧ ∃ v, (u :: vals)[k - n]? = some v ∧ EValOK w I' S (enter N n (.cons a b) x).hm hrc e v) ∧ (enter N n (.cons a b) x).hm.map (·.1) = ids1 ++ ids (n + 1) b := by
        intro a b x I1 s1 hr1 U1 L1 S1 c1 ids1 P1 V1 M1 hy hap hnd
        obtain ⟨ap1, ap2, ap3⟩ := apart_app hap
        obtain ⟨nd1, nd2, nd3⟩ := nodupB_app hnd
        have hv2' : EvsRel w I1 s1.home? hr1 r vals := EvsRel_mem (fun e he a' v' ha' h => P1.stay a' v' (fun g hg hU => by
          obtain ⟨b', hb'⟩ := args_use hy e he a' ha' g hg
          have := (ap3 _ _ hU hb' rfl).1
          cases this) h) hv2
        obtain ⟨I2, hr2, S2, c2, P2, V2, M2⟩ := ih (n + 1) P1.R hv2' hy ap2 nd2
        have hM : ∀ id, id ∈ (enterEV n a x.1).2.map (·.1) → id ∈ (enter N (n + 1) b x.2).hm.map (·.1) → False := fun id h1 h2 => nd3 id (by rw [← M1]; exact h1) (by rw [← M2]; exact h2)
        refine ⟨I2, hr2, un S1 S2, _, P1.append P2 ap3 hM R, fun k e h => ?_, ?_⟩
        · rw [enter_sl.1, getL_cons] at h
          split at h
          · rename_i hk
            cases h
            subst hk
            exact ⟨Nat.le_refl _, u, by simp, V1.left P2.T.sub hM⟩
          · obtain ⟨h1, v, h2, h3⟩ := V2 k e h
            refine ⟨by omega, v, ?_, h3.right hM⟩
            rw [show k - n = (k - (n + 1)) + 1 by omega]
            exact h2
        · rw [enter_sl.2, List.map_append, M1, M2]
      cases ev with
      | tup l => cases a <;> simp only [args, Q.is_fail] at hq
      | «at» v =>
        cases a <;> simp only [args, Q.is_fail] at hq
        rename_i a b
        simp only [Q.is_bind', Q.is_pure] at hq
        obtain ⟨x1, hx, y, hy, e⟩ := hq
        obtain ⟨x1, s1⟩ := x1
        obtain ⟨y, s2⟩ := y
        simp only [Prod.mk.injEq] at e
        obtain ⟨rfl, rfl⟩ := e
        obtain ⟨I1, hr1, S1, c1, P1, V1, M1⟩ := argA_sound R hv1 hx n 0
        have henter : enterEV n a x1 = (.at (enterA n 0 a x1).1, (enterA n 0 a x1).2) := by
          cases a <;> first | rfl | simp only [argA, Q.is_fail] at hx
        have hids : ids n (.cons a b) = idA n 0 a ++ ids (n + 1) b := by cases a <;> first | rfl | simp only [argA, Q.is_fail] at hx
        have huse : use (.at v :: r) (.cons a b) = useA v a ++ use r b := by simp only [use]
        have hlend : lends n (.at v :: r) (.cons a b) = lendA n 0 v a ++ lends (n + 1) r b := by simp only [lends]
        rw [huse] at hap
        rw [hids] at hnd
        rw [huse, hlend, hids]
        refine fin (x := (x1, y)) (L1 := lendA n 0 v a) (c1 := c1) (S1 := S1) (I1 := I1) (hr1 := hr1) ?_ ?_ ?_ hy hap hnd
        · simp only [henter]; exact P1
        · simp only [henter]; exact V1
        · simp only [henter]; exact M1
      | fn g caps =>
        cases a <;> first | (simp only [args, Q.is_fail] at hq; done) | skip
        rename_i a b
        cases a <;> (try simp only [args, Q.is_fail] at hq)
        rename_i f a
        simp only [Q.is_bind', Q.is_must, Q.is_pure] at hq
        obtain ⟨_, hfg, x1, hx, y, hy, e⟩ := hq
        obtain ⟨x1, s1⟩ := x1
        obtain ⟨y, s2⟩ := y
        simp only [Prod.mk.injEq] at e
        obtain ⟨rfl, rfl⟩ := e
        have hfg := beq_iff.1 hfg
        subst hfg
        obtain ⟨us, hu, hvs⟩ := hv1
        have huse : use (.fn g caps :: r) (.cons (.fn g a) b) = useAs caps a ++ use r b := by simp only [use]
        have hlend : lends n (.fn g caps :: r) (.cons (.fn g a) b) = lendAs n 0 caps a ++ lends (n + 1) r b := by simp only [lends]
        have hids : ids n (.cons (.fn g a) b) = idCaps n 0 a ++ ids (n + 1) b := by simp only [ids]
        rw [huse] at hap
        rw [hids] at hnd
        obtain ⟨I1, hr1, S1, c1, P1, V1, M1⟩ := argAs_sound n 0 R hvs hx (apart_app hap).1 (nodupB_app hnd).1
        rw [huse, hlend, hids]
        refine fin (a := .fn g a) (x := (x1, y)) (L1 := lendAs n 0 caps a) (c1 := c1) (S1 := S1) (I1 := I1) (hr1 := hr1) P1 ?_ M1 hy hap hnd
        intro hm hrc2 I2 h1 h2 h3
        exact ⟨us, hu, V1.ats h1 h2 h3⟩
end Go.VM
/- Soundness, part 32: what comes back from a call. -/
namespace Go.VM

/-! ### values without references -/
theorem RepC_noref {w : World} {I I' : CS} : ∀ {t : Ty} {x : t.den} {cs : List Value}, t.hasRef = false → RepC w I t x cs → RepC w I' t x cs := by
  intro t
  induction t with
  | pair a b iha ihb =>
    intro x cs h r
    simp only [Ty.hasRef, Bool.or_eq_false_iff] at h
    simp only [RepC] at r ⊢
    obtain ⟨c1, c2, e, r1, r2⟩ := r
    exact ⟨c1, c2, e, iha h.1 r1, ihb h.2 r2⟩
  | arr n e ih =>
    intro x cs h r
    simp only [Ty.hasRef] at h
    simp only [RepC] at r ⊢
    exact ⟨r.1, r.2.1, fun i y hy => ih h (r.2.2 i y hy)⟩
  | sl e ih => intro x cs h; cases h
  | mp k v _ _ => intro x cs h; cases h
  | _ => intro x cs _ r; simpa only [RepC] using r
theorem RepO_noref {w : World} {I I' : CS} : ∀ {t : Ty} {sh : Sh} {x : t.den} {cs : List Value} {f : CS}, sh.flatRef t = false → RepO w I t sh x cs f → RepO w I' t sh x cs f := by
  intro t
  induction t with
  | pair a b iha ihb =>
    intro sh x cs f h r
    cases sh with
    | flat => rw [RepO_flat] at r ⊢; exact RepC_noref (by simpa only [Sh.flatRef] using h) r
    | pr s u =>
      simp only [Sh.flatRef, Bool.or_eq_false_iff] at h
      simp only [RepO] at r ⊢
      obtain ⟨c1, c2, f1, f2, e, r1, r2, s1, s2, d⟩ := r
      exact ⟨c1, c2, f1, f2, e, iha h.1 r1, ihb h.2 r2, s1, s2, d⟩
    | hole => rw [RepO_hole] at r ⊢; exact r
    | _ => simp only [RepO] at r
  | sl e ih =>
    intro sh x cs f h r
    cases sh with
    | flat => rw [RepO_flat] at r ⊢; exact RepC_noref (by simpa only [Sh.flatRef] using h) r
    | hole => rw [RepO_hole] at r ⊢; exact r
    | own u =>
      simp only [Sh.flatRef] at h
      simp only [RepO] at r ⊢
      exact r.imp fun _ _ _ _ _ k => ih h k
    | len u =>
      simp only [Sh.flatRef] at h
      simp only [RepO] at r ⊢
      exact r.imp fun _ _ _ _ _ k => ih h k
    | pr _ _ => simp only [RepO] at r
    | ownX _ _ _ => cases h
    | mapO => simp only [RepO] at r
  | mp k v _ _ =>
    intro sh x cs f h r
    cases sh with
    | flat => rw [RepO_flat] at r ⊢; exact RepC_noref (by simpa only [Sh.flatRef] using h) r
    | hole => rw [RepO_hole] at r ⊢; exact r
    | mapO =>
      simp only [Sh.flatRef, Bool.or_eq_false_iff] at h
      simp only [RepO] at r ⊢
      obtain ⟨b, e, hb, m⟩ := r
      exact ⟨b, e, hb, m.keep (fun _ _ h => h) (fun _ _ ⟨c, e, r⟩ => ⟨c, e, RepC_noref h.1 r⟩) fun _ _ ⟨c, e, r⟩ => ⟨c, e, RepC_noref h.2 r⟩⟩
    | _ => simp only [RepO] at r
  | _ =>
    intro sh x cs f h r
    cases sh with
    | flat => rw [RepO_flat] at r ⊢; exact RepC_noref (by simpa only [Sh.flatRef] using h) r
    | hole => rw [RepO_hole] at r ⊢; exact r
    | _ => simp only [RepO] at r
theorem HRel_noref {w : World} {I I' : CS} {sh : Sh} {t : Ty} {x : t.den} {bx io d : Bool} {cs : List Value} {f : CS} (h : sh.flatRef t = false) (r : HRel w I ⟨sh, t, x, bx, io, d⟩ cs f) : HRel w I' ⟨sh, t, x, bx, io, d⟩ cs f := by
  unfold HRel at r ⊢
  cases bx with
  | true => exact RepO_noref (t := .sl t) (sh := .own sh) (by simp only [Sh.flatRef]; exact h) r
  | false => exact RepO_noref h r

/-! ### the row of lent things, each once -/
theorem lendA_use {n c : Nat} {v : At} {a : ArgT} {l : Lnd} (h : l ∈ lendA n c v a) : (l.h, true) ∈ useA v a := by
  unfold lendA at h
  split at h
  all_goals first
    | (rw [List.mem_singleton.1 h]; exact List.mem_singleton.2 rfl)
    | exact absurd h List.not_mem_nil
theorem lendAs_use {n : Nat} : ∀ {c : Nat} {v : List At} {a : ArgT} {l : Lnd}, l ∈ lendAs n c v a → (l.h, true) ∈ useAs v a
  | c, [], a, l, h => by simp only [lendAs] at h; exact absurd h List.not_mem_nil
  | c, v :: r, a, l, h => by
    cases a <;> simp only [lendAs] at h <;> first | exact absurd h List.not_mem_nil | skip
    simp only [useAs]
    exact (List.mem_append.1 h).elim (fun h => List.mem_append_left _ (lendA_use h)) fun h => List.mem_append_right _ (lendAs_use h)
theorem lends_use : ∀ {n : Nat} {v : List EV} {a : ArgT} {l : Lnd}, l ∈ lends n v a → (l.h, true) ∈ use v a
  | n, [], a, l, h => by simp only [lends] at h; exact absurd h List.not_mem_nil
  | n, .tup _ :: r, a, l, h => by cases a <;> simp only [lends] at h <;> exact absurd h List.not_mem_nil
  | n, .at v :: r, a, l, h => by
    cases a <;> simp only [lends] at h <;> first | exact absurd h List.not_mem_nil | skip
    simp only [use]
    exact (List.mem_append.1 h).elim (fun h => List.mem_append_left _ (lendA_use h)) fun h => List.mem_append_right _ (lends_use h)
  | n, .fn f caps :: r, a, l, h => by
    cases a <;> first | (simp only [lends] at h; exact absurd h List.not_mem_nil) | skip
    rename_i a b
    cases a <;> first | (simp only [lends] at h; exact absurd h List.not_mem_nil) | skip
    simp only [lends] at h
    simp only [use]
    exact (List.mem_append.1 h).elim (fun h => List.mem_append_left _ (lendAs_use h)) fun h => List.mem_append_right _ (lends_use h)
def OnceH : List Lnd → Prop
  | [] => True
  | l :: r => (∀ m, m ∈ r → l.h ≠ m.h) ∧ OnceH r
theorem OnceH.app : ∀ {l m : List Lnd}, OnceH l → OnceH m → (∀ a b, a ∈ l → b ∈ m → a.h ≠ b.h) → OnceH (l ++ m)
  | [], m, _, h, _ => h
  | a :: l, m, ⟨h1, h2⟩, h3, h4 => ⟨fun b hb => (List.mem_append.1 hb).elim (h1 b) (h4 a b List.mem_cons_self), h2.app h3 fun x y hx hy => h4 x y (List.mem_cons_of_mem _ hx) hy⟩
theorem lendA_once (n c : Nat) (v : At) (a : ArgT) : OnceH (lendA n c v a) := by
  unfold lendA
  split <;> first | exact ⟨fun _ h => absurd h List.not_mem_nil, trivial⟩ | exact trivial
theorem lendAs_once {n : Nat} : ∀ {c : Nat} {v : List At} {a : ArgT}, apart (useAs v a) = true → OnceH (lendAs n c v a)
  | c, [], a, _ => by simp only [lendAs]; exact trivial
  | c, v :: r, a, h => by
    cases a <;> first | (simp only [lendAs]; exact trivial) | skip
    simp only [useAs] at h
    obtain ⟨a1, a2, a3⟩ := apart_app h
    simp only [lendAs]
    exact (lendA_once ..).app (lendAs_once a2) fun x y hx hy e => by
      have := (a3 _ _ (lendA_use hx) (lendAs_use hy) e).1
      cases this
theorem lends_once : ∀ {n : Nat} {v : List EV} {a : ArgT}, apart (use v a) = true → OnceH (lends n v a)
  | n, [], a, _ => by simp only [lends]; exact trivial
  | n, .tup _ :: r, a, _ => by cases a <;> simp only [lends] <;> exact trivial
  | n, .at v :: r, a, h => by
    cases a <;> first | (simp only [lends]; exact trivial) | skip
    simp only [use] at h
    obtain ⟨a1, a2, a3⟩ := apart_app h
    simp only [lends]
    exact (lendA_once ..).app (lends_once a2) fun x y hx hy e => by
      have := (a3 _ _ (lendA_use hx) (lends_use hy) e).1
      cases this
  | n, .fn f caps :: r, a, h => by
    cases a <;> first | (simp only [lends]; exact trivial) | skip
    rename_i a b
    cases a <;> first | (simp only [lends]; exact trivial) | skip
    simp only [use] at h
    obtain ⟨a1, a2, a3⟩ := apart_app h
    simp only [lends]
    exact (lendAs_once a1).app (lends_once a2) fun x y hx hy e => by
      have := (a3 _ _ (lendAs_use hx) (lends_use hy) e).1
      cases this

/-! ### the way back, step by step -/
/-- one lent thing is laid back: 'Hc' the callee's home at the end -/
def Back1 (sf : St) (l : Lnd) (s s' : St) : Prop :=
  ∃ Hc r0 z, sf.home? l.id = some Hc ∧ Hc.io = true ∧ Hc.bx = l.bx ∧ Hc.sh = l.sh ∧ (s.look l.h l.p).Is r0 ∧ (∀ x, r0.2 = ⟨Hc.t, x⟩ → backV l.k Hc.t x Hc.x = some z) ∧ (s.putP l.h l.p r0.1 ⟨Hc.t, z⟩).Is s'
def BackL (sf : St) : List Lnd → St → St → Prop
  | [], s, s' => s' = s
  | l :: r, s, s' => ∃ s1, Back1 sf l s s1 ∧ BackL sf r s1 s'
theorem BackL.app {sf : St} : ∀ {l m : List Lnd} {s s1 s' : St}, BackL sf l s s1 → BackL sf m s1 s' → BackL sf (l ++ m) s s'
  | [], m, s, s1, s', h, k => by cases h; exact k
  | a :: l, m, s, s1, s', ⟨s0, h1, h2⟩, k => ⟨s0, h1, h2.app k⟩

theorem backA_is {sf s s' : St} {n c : Nat} {v : At} {a : ArgT} {y : a.out} (ho : (outA sf n c a).Is y) (hb : (backA s v a y).Is s') : BackL sf (lendA n c v a) s s' := by
  have none : ∀ {t : Ty} {y : Unit} , True := trivial
  cases a with
  | pv t =>
    have hb : (Q.ret s).Is s' := by cases v <;> exact hb
    rw [Q.is_ret] at hb
    have : lendA n c v (.pv t) = [] := by cases v <;> rfl
    rw [this]; exact hb.symm
  | cref t =>
    have hb : (Q.ret s).Is s' := by cases v <;> exact hb
    rw [Q.is_ret] at hb
    have : lendA n c v (.cref t) = [] := by cases v <;> rfl
    rw [this]; exact hb.symm
  | mv sh t =>
    have hb : (Q.ret s).Is s' := by cases v <;> exact hb
    rw [Q.is_ret] at hb
    have : lendA n c v (.mv sh t) = [] := by cases v <;> rfl
    rw [this]; exact hb.symm
  | io sh t =>
    simp only [outA, Q.is_bind', homeQ_is, Q.is_must, Q.is_of, Bool.and_eq_true] at ho
    obtain ⟨H, hH, _, ⟨⟨h1, h2⟩, h3⟩, h4⟩ := ho
    have h4 := asTV h4
    obtain ⟨shc, tc, xc, bxc, ioc, dc⟩ := H
    cases h4
    simp only at h1 h2 h3
    cases v <;> simp only [backA, Q.is_fail] at hb
    rename_i h p
    simp only [setAt, Q.is_bind'] at hb
    obtain ⟨r0, hr0, hp⟩ := hb
    exact ⟨s', ⟨_, r0, _, hH, h1, by simp [Lnd.bx, h2], (eqSh_eq h3).symm, hr0, fun x _ => rfl, hp⟩, rfl⟩
  | ios sh t =>
    simp only [outA, Q.is_bind', homeQ_is, Q.is_must, Q.is_of, Bool.and_eq_true, Bool.not_eq_true'] at ho
    obtain ⟨H, hH, _, ⟨⟨h1, h2⟩, h3⟩, h4⟩ := ho
    have h4 := asTV h4
    obtain ⟨shc, tc, xc, bxc, ioc, dc⟩ := H
    cases h4
    simp only at h1 h2 h3
    cases v <;> simp only [backA, Q.is_fail] at hb
    · rename_i h p
      simp only [setAt, Q.is_bind'] at hb
      obtain ⟨r0, hr0, hp⟩ := hb
      exact ⟨s', ⟨_, r0, _, hH, h1, by simp [Lnd.bx, h2], (eqSh_eq h3).symm, hr0, fun x _ => rfl, hp⟩, rfl⟩
    · rename_i h p lo hi
      simp only [setAt, Q.is_bind', Q.is_of] at hb
      obtain ⟨r0, hr0, x0, hx0, z, hz, r1, hr1, hp⟩ := hb
      have he : r1 = r0 := by
        have a := Q.run_some (q := s.look h p) (K := some) (r := r0) |>.2 ⟨r0, hr0, rfl⟩
        have b := Q.run_some (q := s.look h p) (K := some) (r := r1) |>.2 ⟨r1, hr1, rfl⟩
        rw [a] at b; simpa using b.symm
      subst he
      refine ⟨s', ⟨_, r1, z, hH, h1, by simp [Lnd.bx, h2], (eqSh_eq h3).symm, hr0, fun x hx => ?_, hp⟩, rfl⟩
      have := asTV hx0
      rw [this] at hx
      cases hx
      cases tc <;> simp only [spliceOf, reduceCtorEq] at hz
      exact hz
  | _ => cases v <;> simp only [backA, Q.is_fail] at hb
theorem backAs_is {sf : St} {n : Nat} : ∀ {v : List At} {c : Nat} {a : ArgT} {y : a.out} {s s' : St}, (outA sf n c a).Is y → (backAs s v a y).Is s' → BackL sf (lendAs n c v a) s s'
  | [], c, a, y, s, s', ho, hb => by
    cases a <;> simp only [backAs, Q.is_fail] at hb
    rw [Q.is_ret] at hb
    simp only [lendAs]; exact hb.symm
  | v :: r, c, a, y, s, s', ho, hb => by
    cases a <;> simp only [backAs, Q.is_fail] at hb
    simp only [outA, Q.is_bind', Q.is_pure] at ho
    simp only [Q.is_bind'] at hb
    obtain ⟨y1, hy1, y2, hy2, rfl⟩ := ho
    obtain ⟨s1, h1, h2⟩ := hb
    simp only [lendAs]
    exact (backA_is hy1 h1).app (backAs_is hy2 h2)
theorem back_is {sf : St} : ∀ {v : List EV} {n : Nat} {a : ArgT} {y : a.out} {s s' : St}, (outs sf n a).Is y → (back s v a y).Is s' → BackL sf (lends n v a) s s'
  | [], n, a, y, s, s', ho, hb => by
    cases a <;> simp only [back, Q.is_fail] at hb
    rw [Q.is_ret] at hb
    simp only [lends]; exact hb.symm
  | .tup _ :: r, n, a, y, s, s', ho, hb => by cases a <;> simp only [back, Q.is_fail] at hb
  | .at v :: r, n, a, y, s, s', ho, hb => by
    cases a <;> simp only [back, Q.is_fail] at hb
    simp only [outs, Q.is_bind', Q.is_pure] at ho
    simp only [Q.is_bind'] at hb
    obtain ⟨y1, hy1, y2, hy2, rfl⟩ := ho
    obtain ⟨s1, h1, h2⟩ := hb
    simp only [lends]
    exact (backA_is hy1 h1).app (back_is hy2 h2)
  | .fn f caps :: r, n, a, y, s, s', ho, hb => by
    cases a <;> first | (simp only [back, Q.is_fail] at hb; done) | skip
    rename_i a b
    cases a <;> (try simp only [back, Q.is_fail] at hb)
    simp only [outs, outA, Q.is_bind', Q.is_pure] at ho
    simp only [Q.is_bind'] at hb
    obtain ⟨y1, hy1, y2, hy2, rfl⟩ := ho
    obtain ⟨s1, h1, h2⟩ := hb
    simp only [lends]
    exact (backAs_is hy1 h1).app (back_is hy2 h2)

/-- the state behind the way back -/
structure BackSt (sf : St) (L : List Lnd) (s s' : St) : Prop where
  other : ∀ g, (∀ l, l ∈ L → l.h ≠ g) → s'.home? g = s.home? g
  lent : ∀ l, l ∈ L → ∃ H r0 q Hc, ∃ z : Hc.t.den, s.home? l.h = some H ∧ (lookQ H.t H.x H.sh l.p).Is r0 ∧ sf.home? l.id = some Hc ∧ Hc.io = true ∧ Hc.bx = l.bx ∧ Hc.sh = l.sh ∧ (∀ x, r0.2 = ⟨Hc.t, x⟩ → backV l.k Hc.t x Hc.x = some z) ∧
    (putQ H.t H.x H.sh l.p r0.1 ⟨Hc.t, z⟩).Is q ∧ s'.home? l.h = some { H with sh := q.1, x := q.2, d := true }
  slots : ∃ K : At → At, (∀ n, s'.get n = (s.get n).map K) ∧ ∀ a, K a = .dead ∨ (K a = a ∧ ∀ l, l ∈ L → ∀ H, s.home? l.h = some H → refA a = some l.h → isBase H.bx a = true)
  mild : Mild s s'
theorem BackL.st {sf : St} : ∀ {L : List Lnd} {s s' : St}, OnceH L → BackL sf L s s' → BackSt sf L s s'
  | [], s, s', _, h => by
    cases h
    exact ⟨fun _ _ => rfl, fun _ h => absurd h List.not_mem_nil, ⟨id, fun n => by rw [EV.map_id], fun a => .inr ⟨rfl, fun _ h => absurd h List.not_mem_nil⟩⟩, .refl s⟩
  | l :: L, s, s', ⟨ho, hL⟩, ⟨s1, ⟨Hc, r0, z, b1, b2, b3, b4, b5, b6, b7⟩, h⟩ => by
    obtain ⟨i1, i2, ⟨K, i3, i4⟩, i5⟩ := BackL.st hL h
    have hm := putP_mild b7
    obtain ⟨H, hH, hl⟩ := look_is.1 b5
    simp only [St.putP, Q.is_bind', homeQ_is, Q.is_pure] at b7
    obtain ⟨H', hH', q, hq, rfl⟩ := b7
    rw [hH] at hH'; cases hH'
    have h1 : ∀ g, l.h ≠ g → ((s.setH l.h (some { H with sh := q.1, x := q.2, d := true })).mapA (killR l.h H.bx)).home? g = s.home? g := fun g e => by rw [home?_mapA, home?_setH, if_neg e]
    have h0 : ((s.setH l.h (some { H with sh := q.1, x := q.2, d := true })).mapA (killR l.h H.bx)).home? l.h = some { H with sh := q.1, x := q.2, d := true } := by rw [home?_mapA, home?_setH, if_pos rfl]
    refine ⟨fun g hg => ?_, fun m hm => ?_, ⟨fun a => K (killR l.h H.bx a), fun n => ?_, fun a => ?_⟩, hm.trans i5⟩
    · rw [i1 g fun m hm => hg m (List.mem_cons_of_mem _ hm), h1 g (hg l List.mem_cons_self)]
    · rcases List.mem_cons.1 hm with rfl | hm
      · exact ⟨H, r0, q, Hc, z, hH, hl, b1, b2, b3, b4, b6, hq, by rw [i1 m.h fun k hk e => ho k hk e.symm, h0]⟩
      · obtain ⟨G, r0', q', Hc', z', c1, c2, c3, c4, c5, c6, c7, c8, c9⟩ := i2 m hm
        rw [h1 m.h (ho m hm)] at c1
        exact ⟨G, r0', q', Hc', z', c1, c2, c3, c4, c5, c6, c7, c8, c9⟩
    · rw [i3, get_mapA _ _ (killR_dead _ _), get_setH]
      cases s.get n <;> simp [EV.map]
    · rcases killR_cases l.h H.bx a with e | ⟨e, hb⟩
      · simp only [e]
        rcases i4 .dead with e2 | ⟨e2, _⟩ <;> exact .inl e2
      · simp only [e]
        rcases i4 a with e2 | ⟨e2, h2⟩
        · exact .inl e2
        · refine .inr ⟨e2, fun m hm G hG hr => ?_⟩
          rcases List.mem_cons.1 hm with rfl | hm
          · rw [hH] at hG; cases hG; exact hb hr
          · exact h2 m hm G (by rw [h1 m.h (ho m hm)]; exact hG) hr
end Go.VM
/- Soundness, part 33: the caller's state behind a call. -/
namespace Go.VM

/-! ### each number once -/
def OnceI : List Lnd → Prop
  | [] => True
  | l :: r => (∀ m, m ∈ r → l.id ≠ m.id) ∧ OnceI r
theorem OnceI.app : ∀ {l m : List Lnd}, OnceI l → OnceI m → (∀ a b, a ∈ l → b ∈ m → a.id ≠ b.id) → OnceI (l ++ m)
  | [], m, _, h, _ => h
  | a :: l, m, ⟨h1, h2⟩, h3, h4 => ⟨fun b hb => (List.mem_append.1 hb).elim (h1 b) (h4 a b List.mem_cons_self), h2.app h3 fun x y hx hy => h4 x y (List.mem_cons_of_mem _ hx) hy⟩
theorem OnceI.inj : ∀ {l : List Lnd}, OnceI l → ∀ {a b}, a ∈ l → b ∈ l → a.id = b.id → a = b
  | c :: l, ⟨h1, h2⟩, a, b, ha, hb, e => by
    rcases List.mem_cons.1 ha with e1 | ha' <;> rcases List.mem_cons.1 hb with e2 | hb'
    · exact e1.trans e2.symm
    · exact absurd e (e1 ▸ h1 b hb')
    · exact absurd e.symm (e2 ▸ h1 a ha')
    · exact h2.inj ha' hb' e
theorem OnceH.inj : ∀ {l : List Lnd}, OnceH l → ∀ {a b}, a ∈ l → b ∈ l → a.h = b.h → a = b
  | c :: l, ⟨h1, h2⟩, a, b, ha, hb, e => by
    rcases List.mem_cons.1 ha with e1 | ha' <;> rcases List.mem_cons.1 hb with e2 | hb'
    · exact e1.trans e2.symm
    · exact absurd e (e1 ▸ h1 b hb')
    · exact absurd e.symm (e2 ▸ h1 a ha')
    · exact h2.inj ha' hb' e
theorem lendA_id {n c : Nat} {v : At} {a : ArgT} {l : Lnd} (h : l ∈ lendA n c v a) : l.id ∈ idA n c a := by
  unfold lendA at h
  split at h
  all_goals first
    | (rw [List.mem_singleton.1 h]; exact List.mem_singleton.2 rfl)
    | exact absurd h List.not_mem_nil
theorem lendAs_id {n : Nat} : ∀ {c : Nat} {v : List At} {a : ArgT} {l : Lnd}, l ∈ lendAs n c v a → l.id ∈ idCaps n c a
  | c, [], a, l, h => by simp only [lendAs] at h; exact absurd h List.not_mem_nil
  | c, v :: r, a, l, h => by
    cases a <;> simp only [lendAs] at h <;> first | exact absurd h List.not_mem_nil | skip
    simp only [idCaps]
    exact (List.mem_append.1 h).elim (fun h => List.mem_append_left _ (lendA_id h)) fun h => List.mem_append_right _ (lendAs_id h)
theorem ids_cons {n : Nat} {a b : ArgT} (h : ∀ f c, a ≠ .fn f c) : ids n (.cons a b) = idA n 0 a ++ ids (n + 1) b := by
  cases a <;> first | rfl | exact absurd rfl (h _ _)
theorem lendA_fn {n c f : Nat} {v : At} {a : ArgT} : lendA n c v (.fn f a) = [] := by cases v <;> rfl
theorem lends_id : ∀ {n : Nat} {v : List EV} {a : ArgT} {l : Lnd}, l ∈ lends n v a → l.id ∈ ids n a
  | n, [], a, l, h => by simp only [lends] at h; exact absurd h List.not_mem_nil
  | n, .tup _ :: r, a, l, h => by cases a <;> simp only [lends] at h <;> exact absurd h List.not_mem_nil
  | n, .at v :: r, a, l, h => by
    cases a <;> simp only [lends] at h <;> first | exact absurd h List.not_mem_nil | skip
    rename_i a b
    by_cases hf : ∃ f c, a = .fn f c
    · obtain ⟨f, c, rfl⟩ := hf
      rw [lendA_fn] at h
      simp only [ids]
      exact List.mem_append_right _ (lends_id (by simpa using h))
    · rw [ids_cons fun f c e => hf ⟨f, c, e⟩]
      exact (List.mem_append.1 h).elim (fun h => List.mem_append_left _ (lendA_id h)) fun h => List.mem_append_right _ (lends_id h)
  | n, .fn f caps :: r, a, l, h => by
    cases a <;> first | (simp only [lends] at h; exact absurd h List.not_mem_nil) | skip
    rename_i a b
    cases a <;> first | (simp only [lends] at h; exact absurd h List.not_mem_nil) | skip
    simp only [lends] at h
    simp only [ids]
    exact (List.mem_append.1 h).elim (fun h => List.mem_append_left _ (lendAs_id h)) fun h => List.mem_append_right _ (lends_id h)
theorem lendA_onceI (n c : Nat) (v : At) (a : ArgT) : OnceI (lendA n c v a) := by
  unfold lendA
  split <;> first | exact ⟨fun _ h => absurd h List.not_mem_nil, trivial⟩ | exact trivial
theorem lendAs_onceI {n : Nat} : ∀ {c : Nat} {v : List At} {a : ArgT}, nodupB (idCaps n c a) = true → OnceI (lendAs n c v a)
  | c, [], a, _ => by simp only [lendAs]; exact trivial
  | c, v :: r, a, h => by
    cases a <;> first | (simp only [lendAs]; exact trivial) | skip
    simp only [idCaps] at h
    obtain ⟨a1, a2, a3⟩ := nodupB_app h
    simp only [lendAs]
    exact (lendA_onceI ..).app (lendAs_onceI a2) fun x y hx hy e => a3 _ (lendA_id hx) (by rw [e]; exact lendAs_id hy)
theorem lends_onceI : ∀ {n : Nat} {v : List EV} {a : ArgT}, nodupB (ids n a) = true → OnceI (lends n v a)
  | n, [], a, _ => by simp only [lends]; exact trivial
  | n, .tup _ :: r, a, _ => by cases a <;> simp only [lends] <;> exact trivial
  | n, .at v :: r, a, h => by
    cases a <;> first | (simp only [lends]; exact trivial) | skip
    rename_i a b
    simp only [lends]
    by_cases hf : ∃ f c, a = .fn f c
    · obtain ⟨f, c, rfl⟩ := hf
      rw [lendA_fn]
      simp only [ids] at h
      exact lends_onceI (nodupB_app h).2.1
    · rw [ids_cons fun f c e => hf ⟨f, c, e⟩] at h
      obtain ⟨a1, a2, a3⟩ := nodupB_app h
      exact (lendA_onceI ..).app (lends_onceI a2) fun x y hx hy e => a3 _ (lendA_id hx) (by rw [e]; exact lends_id hy)
  | n, .fn f caps :: r, a, h => by
    cases a <;> first | (simp only [lends]; exact trivial) | skip
    rename_i a b
    cases a <;> first | (simp only [lends]; exact trivial) | skip
    simp only [ids] at h
    obtain ⟨a1, a2, a3⟩ := nodupB_app h
    simp only [lends]
    exact (lendAs_onceI a1).app (lends_onceI a2) fun x y hx hy e => a3 _ (lendAs_id hx) (by rw [e]; exact lends_id hy)

theorem apart_both : ∀ {l : List (Nat × Bool)} {g : Nat}, apart l = true → (g, true) ∈ l → (g, false) ∈ l → False
  | (k, x) :: r, g, h, h1, h2 => by
    simp only [apart, Bool.and_eq_true] at h
    obtain ⟨ha, hr⟩ := h
    rcases List.mem_cons.1 h1 with e1 | k1 <;> rcases List.mem_cons.1 h2 with e2 | k2
    · rw [← e1] at e2; cases e2
    · simp only [Prod.mk.injEq] at e1
      have := List.all_eq_true.1 ha _ k2
      rw [← e1.1, ← e1.2, beq_iff.2 rfl] at this
      cases this
    · simp only [Prod.mk.injEq] at e2
      have := List.all_eq_true.1 ha _ k1
      rw [← e2.1, ← e2.2, beq_iff.2 rfl] at this
      cases this
    · exact apart_both hr k1 k2

theorem call_back {fz : Bool} {tmps : Array Value} {w : World} {I I2 : CS} {s s2 : St} {hr hr2 : Nat → HR} {U : List (Nat × Bool)} {L : List Lnd} {M : List (Nat × Option Home)} {S : CS} {hrc : Nat → HR} (P : Pc fz tmps w I s hr I2 s2 hr2 U L M S hrc) (R : StRel w I s hr tmps)
    (onH : OnceH L) (onI : OnceI L) {hmc : Hm} (hM : ∀ id H, hmc id = some H → (id, some H) ∈ M) (hM2 : ∀ id H, (id, some H) ∈ M → hmc id = some H) {w' : World} {I' : CS} {sf : St} {hrf : Nat → HR} (CR : Rel w' I' sf.home? hrf) (CT : Trans w (un I2 S) hmc hrc w' I' sf.home? hrf) {s3 : St} (B : BackSt sf L s2 s3)
    {I3 : CS} (hI : (fz = true ∧ I3 = I') ∨ (I3 = I2 ∧ ∀ l, l ∈ L → l.sh.flatRef l.t = false)) :
    ∃ hr3, StRel w' I3 s3 hr3 tmps ∧ Trans w I s.home? hr w' I3 s3.home? hr3 ∧
      ∀ f : CS, Sub f (un (tot hmc hrc) (new w)) → Disj f (tot sf.home? hrf) → Disj f I' → Disj f (tot s3.home? hr3) ∧ Disj f I3 ∧ Sub f (un (tot s.home? hr) (new w)) := by
  have R2 := P.R
  have tcS : Sub (tot hmc hrc) (tot s.home? hr) := fun b o ⟨id, H, h, x⟩ => P.old id H (hM id H h) b o x
  have tcO : ∀ b o, tot hmc hrc b o → b < w.heap.size := fun b o x => R.1.oldT b o (tcS b o x)
  -- what is lent, of the one home alone
  have src : ∀ l, l ∈ L → ∃ H, hmc l.id = some H ∧ LentOK w I2 s2 hr2 l H (hrc l.id) := by
    intro l hl
    obtain ⟨H, hH, hio⟩ := P.lall l hl
    rcases P.src l.id H hH with ⟨m, hm, e, k⟩ | ⟨h1, h2, air⟩
    · have := onI.inj hm hl e
      subst this
      exact ⟨H, hM2 _ _ hH, k⟩
    · rw [hio] at h2; cases h2
  have inHome : ∀ {l : Lnd} {H : Home} {hc : HR}, LentOK w I2 s2 hr2 l H hc → ∃ G, s2.home? l.h = some G ∧ Sub hc.fp (hr2 l.h).fp := fun ⟨G, r, put, a, b, c, d, e, f, g, k⟩ => ⟨G, a, g.sub⟩
  -- the callee's cells within a home of the caller: what that home has lent
  have tcIn : ∀ g G, s2.home? g = some G → ∀ b o, (hr2 g).fp b o → tot hmc hrc b o → ∃ l, l ∈ L ∧ l.h = g ∧ (hrc l.id).fp b o := by
    rintro g G hG b o x ⟨id, H, hid, y⟩
    rcases P.src id H (hM id H hid) with ⟨l, hl, e, k⟩ | ⟨_, _, air⟩
    · obtain ⟨G', g1, g2⟩ := inHome k
      by_cases hne : l.h = g
      · exact ⟨l, hl, hne, by rw [e]; exact y⟩
      · exact (R2.1.disj l.h g G' G g1 hG hne b o (g2 b o y) x).elim
    · exact (air.tot b o y ⟨g, G, hG, x⟩).elim
  have oldIn : ∀ g G, s2.home? g = some G → ∀ b o, (hr2 g).fp b o → ¬ new w b o := fun g G hG b o x y => absurd (R2.1.oldf g G hG b o x) (Nat.not_lt.2 y)
  -- what was not lent is as it was
  have keepOut : ∀ g G, s2.home? g = some G → ∀ b o, (hr2 g).fp b o → (∀ l, l ∈ L → l.h = g → ¬ (hrc l.id).fp b o) → Same w w' b o := fun g G hG b o x hn => CT.fr.cell b o (R2.1.oldf g G hG b o x) fun y => by
    obtain ⟨l, hl, e, z⟩ := tcIn g G hG b o x y
    exact hn l hl e z
  have I2tc : ∀ b o, I2 b o → ¬ tot hmc hrc b o := by
    rintro b o x ⟨id, H, hid, y⟩
    rcases P.src id H (hM id H hid) with ⟨l, hl, e, k⟩ | ⟨_, _, air⟩
    · obtain ⟨G, g1, g2⟩ := inHome k
      exact R2.1.apart l.h G g1 b o (g2 b o y) x
    · exact air.imm b o y x
  have kI : Keep w w' I2 := fun b o x => CT.fr.cell b o (R2.1.old b o x) (I2tc b o x)
  have I2I' : Sub I2 I' := fun b o x => CT.sub b o (.inl x)
  have s23 : Sub I2 I3 := by rcases hI with ⟨_, rfl⟩ | ⟨rfl, _⟩; exact I2I'; exact .refl _
  have I3I' : Sub I3 I' := by rcases hI with ⟨_, rfl⟩ | ⟨rfl, _⟩; exact .refl _; exact I2I'
  have I3in : Sub I3 (un I2 (un (tot hmc hrc) (new w))) := by
    rcases hI with ⟨hf, rfl⟩ | ⟨rfl, _⟩
    · intro b o x
      exact (CT.imm b o x).elim (fun y => y.elim .inl fun y => (P.seenF hf b o y).elim) .inr
    · exact fun b o x => .inl x
  -- the homes behind the call
  have key : ∀ g, ∃ fp : CS, (∀ H3, s3.home? g = some H3 → HRel w' I3 H3 (hr2 g).cs fp ∧ ∃ G, s2.home? g = some G ∧ H3.bx = G.bx ∧ H3.io = G.io ∧ H3.t = G.t ∧
      Sub fp (un (fun b o => (hr2 g).fp b o ∧ ∀ l, l ∈ L → l.h = g → ¬ (hrc l.id).fp b o) (fun b o => ∃ l, l ∈ L ∧ l.h = g ∧ (hrf l.id).fp b o ∧ ∃ Hc, sf.home? l.id = some Hc)) ∧ ((∀ l, l ∈ L → l.h ≠ g) → H3 = G ∧ fp = (hr2 g).fp)) := by
    intro g
    by_cases hg : ∃ l, l ∈ L ∧ l.h = g
    · obtain ⟨l, hl, rfl⟩ := hg
      obtain ⟨H, r0, q, Hc, z, b1, b2, b3, b4, b5, b6, b7, b8, b9⟩ := B.lent l hl
      obtain ⟨Hc0, c1, k⟩ := src l hl
      have hin := inHome k
      obtain ⟨G, r, put, k1, k2, k3, k4, k5, k6, k7, k8⟩ := k
      rw [b1] at k1; cases k1
      obtain ⟨G0, i1, i2, i3, i4, i5⟩ := CT.io l.id Hc b3 b4
      rw [c1] at i1; cases i1
      have hr0 : r = r0 := by
        have a := Q.run_some (q := lookQ H.t H.x H.sh l.p) (K := some) (r := r0) |>.2 ⟨r0, b2, rfl⟩
        have b := Q.run_some (q := lookQ H.t H.x H.sh l.p) (K := some) (r := r) |>.2 ⟨r, k7.look, rfl⟩
        rw [a] at b; simpa using b.symm
      subst hr0
      obtain ⟨shc, tc, xc, bxc, ioc, dc⟩ := Hc
      obtain ⟨sh0, t0, x0, bx0, io0, d0⟩ := Hc0
      simp only at i2 i3 i4 i5 b4 b5 b6 b7 b8 k2 k3 k4 k5 k6 k7 k8
      subst i4
      have hsub : ∀ b o, (Go.VM.sub (hr2 l.h).fp (hrc l.id).fp) b o → (hr2 l.h).fp b o ∧ ∀ m, m ∈ L → m.h = l.h → ¬ (hrc m.id).fp b o := fun b o x => ⟨x.1, fun m hm e => by
        have := onH.inj hm hl e
        subst this; exact x.2⟩
      have hrel0 : HRel w' I' ⟨sh0, t0, xc, bx0, true, true⟩ (hrc l.id).cs (hrf l.id).fp := by
        have := CR.home l.id _ b3
        rw [i5] at this
        have e1 : shc = sh0 := b6.trans k2.symm
        have e2 : bxc = bx0 := b5.trans k4.symm
        subst e1 e2
        exact HRel_io (io := true) (d := true) this
      have hrel : HRel w' I3 ⟨sh0, t0, xc, bx0, true, true⟩ (hrc l.id).cs (hrf l.id).fp := by
        rcases hI with ⟨_, rfl⟩ | ⟨rfl, hno⟩
        · exact hrel0
        · have hl2 := hno l hl
          rw [← k2, ← k3] at hl2
          exact HRel_noref hl2 hrel0
      -- the new value
      obtain ⟨rs, rt, rx⟩ := r
      simp only at k6
      subst k6
      obtain ⟨z', z1, z2⟩ := k8 xc rx rfl
      have hz := b7 rx rfl
      rw [z1] at hz
      cases hz
      have hput : put xc = z := by cases z2; rfl
      have dfr : Disj (hrf l.id).fp (Go.VM.sub (hr2 l.h).fp (hrc l.id).fp) := fun b o x y => by
        rcases CT.tot b o ⟨l.id, _, b3, x⟩ with x | x
        · obtain ⟨m, hm, e, z⟩ := tcIn l.h H b1 b o y.1 x
          have := onH.inj hm hl e
          subst this; exact y.2 z
        · exact oldIn l.h H b1 b o y.1 x
      obtain ⟨fp', m1, m2⟩ := k7.back w' I3 xc (hrf l.id).fp q true (fun b o x => keepOut l.h H b1 b o x.1 (hsub b o x).2) kI s23 hrel dfr (by rw [hput]; exact b8)
      refine ⟨fp', fun H3 e3 => ?_⟩
      rw [b9] at e3; cases e3
      exact ⟨m1, H, b1, rfl, rfl, rfl, fun b o x => (m2 b o x).imp (hsub b o) fun x => ⟨l, hl, rfl, x, _, b3⟩, fun hn => absurd rfl (hn l hl)⟩
    · have hg' : ∀ l, l ∈ L → l.h ≠ g := fun l hl e => hg ⟨l, hl, e⟩
      refine ⟨(hr2 g).fp, fun H3 e3 => ?_⟩
      rw [B.other g hg'] at e3
      have kF : Keep w w' (hr2 g).fp := fun b o x => keepOut g H3 e3 b o x fun l hl e => absurd e (hg' l hl)
      exact ⟨HRel_keep s23 kI kF (.refl _) (R2.1.home g H3 e3), H3, e3, rfl, rfl, rfl, fun b o x => .inl ⟨x, fun l hl e => absurd e (hg' l hl)⟩, fun _ => ⟨rfl, rfl⟩⟩
  let fps : Nat → CS := fun g => Classical.choose (key g)
  have hfps := fun g => Classical.choose_spec (key g)
  have hfps : ∀ g H3, s3.home? g = some H3 → HRel w' I3 H3 (hr2 g).cs (fps g) ∧ ∃ G, s2.home? g = some G ∧ H3.bx = G.bx ∧ H3.io = G.io ∧ H3.t = G.t ∧
      Sub (fps g) (un (fun b o => (hr2 g).fp b o ∧ ∀ l, l ∈ L → l.h = g → ¬ (hrc l.id).fp b o) (fun b o => ∃ l, l ∈ L ∧ l.h = g ∧ (hrf l.id).fp b o ∧ ∃ Hc, sf.home? l.id = some Hc)) ∧ ((∀ l, l ∈ L → l.h ≠ g) → H3 = G ∧ fps g = (hr2 g).fp) := hfps
  let hr3 : Nat → HR := fun g => ⟨(hr2 g).cs, fps g⟩
  -- two kinds of cells: what a home has kept, and what came back
  have keptOff : ∀ g G, s2.home? g = some G → ∀ b o, ((hr2 g).fp b o ∧ ∀ l, l ∈ L → l.h = g → ¬ (hrc l.id).fp b o) → ¬ un (tot hmc hrc) (new w) b o := fun g G hG b o x y => y.elim (fun y => by
      obtain ⟨l, hl, e, z⟩ := tcIn g G hG b o x.1 y; exact x.2 l hl e z) (oldIn g G hG b o x.1)
  have cameTot : ∀ l b o, l ∈ L → (hrf l.id).fp b o → (∃ Hc, sf.home? l.id = some Hc) → tot sf.home? hrf b o := fun l b o _ x ⟨Hc, h⟩ => ⟨l.id, Hc, h, x⟩
  have R3 : StRel w' I3 s3 hr3 tmps := by
    refine ⟨⟨fun g H3 e => (hfps g H3 e).1, fun g k G3 K3 e1 e2 ne => ?_, fun g H3 e b o x y => ?_, fun b o x => ?_, fun g H3 e b o x => ?_⟩, fun n => ?_, ?_⟩
    · obtain ⟨_, G, g1, _, _, _, g2, _⟩ := hfps g G3 e1
      obtain ⟨_, K, k1, _, _, _, k2, _⟩ := hfps k K3 e2
      intro b o x y
      rcases g2 b o x with x | ⟨l, hl, el, x, hx⟩ <;> rcases k2 b o y with y | ⟨m, hm, em, y, hy⟩
      · exact R2.1.disj g k G K g1 k1 ne b o x.1 y.1
      · exact keptOff g G g1 b o x (CT.tot b o (cameTot m b o hm y hy))
      · exact keptOff k K k1 b o y (CT.tot b o (cameTot l b o hl x hx))
      · obtain ⟨Hl, hx⟩ := hx
        obtain ⟨Hm, hy⟩ := hy
        refine CR.disj l.id m.id Hl Hm hx hy (fun e => ?_) b o x y
        have := onI.inj hl hm e
        subst this
        exact ne (el.symm.trans em)
    · obtain ⟨_, G, g1, _, _, _, g2, _⟩ := hfps g H3 e
      rcases g2 b o x with x | ⟨l, hl, el, x, Hc, hx⟩
      · rcases I3in b o y with y | y
        · exact R2.1.apart g G g1 b o x.1 y
        · exact keptOff g G g1 b o x y
      · exact CR.apart l.id Hc hx b o x (I3I' b o y)
    · exact CR.old b o (I3I' b o x)
    · obtain ⟨_, G, g1, _, _, _, g2, _⟩ := hfps g H3 e
      rcases g2 b o x with x | ⟨l, hl, el, x, Hc, hx⟩
      · exact Nat.lt_of_lt_of_le (R2.1.oldf g G g1 b o x.1) CT.fr.size
      · exact CR.oldf l.id Hc hx b o x
    · obtain ⟨K, k1, k2⟩ := B.slots
      rw [k1]
      refine EvRel_map (fun a r ha => ?_) (R2.2.1 n)
      rcases k2 a with e | ⟨e, hbase⟩
      · rw [e]; trivial
      · rw [e]
        by_cases hl : ∃ l, l ∈ L ∧ refA a = some l.h
        · obtain ⟨l, hl, hra⟩ := hl
          obtain ⟨H, r0, q, Hc, z, b1, b2, b3, b4, b5, b6, b7, b8, b9⟩ := B.lent l hl
          obtain ⟨h1, G, g1, g2, g3, g4, g5, _⟩ := hfps l.h _ b9
          rw [b1] at g1; cases g1
          exact AtRel_base (hr := hr2) (hr' := hr3) b1 b9 g2 g4 rfl h1 hra (hbase l hl H b1 hra) ha
        · refine AtRel_stay s23 kI (fun g hg => ?_) ha
          have hng : ∀ l, l ∈ L → l.h ≠ g := fun l hl' e => hl ⟨l, hl', by rw [hg, e]⟩
          cases hG : s3.home? g with
          | none => exact .inl hG
          | some H3 =>
            obtain ⟨_, G, g1, _, _, _, _, g6⟩ := hfps g H3 hG
            obtain ⟨rfl, e2⟩ := g6 hng
            refine .inr ⟨H3, H3, g1, hG, rfl, rfl, rfl, fun b o x => x.elim (fun x => keepOut g H3 g1 b o x fun l hl' e => absurd e (hng l hl')) (kI b o), fun b o x => x.elim (fun x => .inl ?_) fun x => .inr (s23 b o x)⟩
            show fps g b o
            rw [e2]; exact x
    · rw [B.mild.n]; exact R2.2.2
  refine ⟨hr3, R3, ⟨?_, P.T.sub.trans s23, ?_, ?_, ?_⟩, ?_⟩
  · exact CT.fr.sub tcS
  · intro b o x
    rcases I3in b o x with x | x | x
    · exact P.T.imm b o x
    · exact .inr (.inl (tcS b o x))
    · exact .inr (.inr x)
  · rintro b o ⟨g, H3, e, x⟩
    obtain ⟨_, G, g1, _, _, _, g2, _⟩ := hfps g H3 e
    rcases g2 b o x with x | ⟨l, hl, el, x, Hc, hx⟩
    · exact P.T.tot b o ⟨g, G, g1, x.1⟩
    · exact (CT.tot b o ⟨l.id, Hc, hx, x⟩).imp (tcS b o) id
  · intro g H3 e io
    obtain ⟨_, G, g1, g2, g3, g4, _⟩ := hfps g H3 e
    rw [g3] at io
    obtain ⟨G0, k1, k2, k3, k4, k5⟩ := P.T.io g G g1 io
    exact ⟨G0, k1, k2, k3.trans g2.symm, k4.trans g4.symm, k5⟩
  · intro f f1 f2 f3
    refine ⟨?_, fun b o x y => f3 b o x (I3I' b o y), fun b o x => (f1 b o x).imp (tcS b o) id⟩
    rintro b o x ⟨g, H3, e, y⟩
    obtain ⟨_, G, g1, _, _, _, g2, _⟩ := hfps g H3 e
    rcases g2 b o y with y | ⟨l, hl, el, y, hy⟩
    · exact keptOff g G g1 b o y (f1 b o x)
    · exact f2 b o x (cameTot l b o hl y hy)
end Go.VM
/- Soundness, part 34: results. -/
namespace Go.VM

/-- results in the air, each apart from the others -/
def RetsAir (w : World) (I T0 : CS) : CS → (r : RetT) → r.den → List Value → Prop
  | _, .nil, _, vs => vs = []
  | T, .cons sh t r, x, vs => ∃ cs f vs', vs = toVal t cs :: vs' ∧ Air w I T t sh x.1 cs f ∧ Sub f T0 ∧ RetsAir w I T0 (un T f) r x.2 vs'
theorem RetsAir.anti {w : World} {I T0 : CS} : ∀ {r : RetT} {x : r.den} {vs : List Value} {T T' : CS}, Sub T' T → RetsAir w I T0 T r x vs → RetsAir w I T0 T' r x vs
  | .nil, _, _, _, _, _, h => h
  | .cons sh t r, x, vs, T, T', hs, ⟨cs, f, vs', e, air, sf, h⟩ => ⟨cs, f, vs', e, ⟨air.rep, air.tot.sub (.refl _) hs, air.imm, air.old⟩, sf, h.anti fun b o x => x.imp (hs b o) id⟩
theorem RetsAir.add {w : World} {I T0 f : CS} (hd : Disj f T0) : ∀ {r : RetT} {x : r.den} {vs : List Value} {T : CS}, RetsAir w I T0 T r x vs → RetsAir w I T0 (un T f) r x vs
  | .nil, _, _, _, h => h
  | .cons sh t r, x, vs, T, ⟨cs, g, vs', e, air, sg, h⟩ => ⟨cs, g, vs', e, ⟨air.rep, fun b o x y => y.elim (air.tot b o x) fun y => hd b o y (sg b o x), air.imm, air.old⟩, sg,
      (h.add hd).anti fun b o x => x.elim (fun x => x.elim (fun x => .inl (.inl x)) .inr) fun x => .inl (.inr x)⟩
theorem RetsAir.mono0 {w : World} {I T0 T1 : CS} (hs : Sub T0 T1) : ∀ {r : RetT} {x : r.den} {vs : List Value} {T : CS}, RetsAir w I T0 T r x vs → RetsAir w I T1 T r x vs
  | .nil, _, _, _, h => h
  | .cons sh t r, x, vs, T, ⟨cs, g, vs', e, air, sg, h⟩ => ⟨cs, g, vs', e, air, sg.trans hs, h.mono0 hs⟩

variable {P : Program} {w : World}
/-- what a result variable tells -/
def ResV (P : Program) (w : World) (tmps : Array Value) : ResultVar → Value → Prop
  | .tmp n, v => v = tmps.getD n undef
  | .cell n T, v => (do loadVar T (← asAddr (tmps.getD n undef)) : Sem Value).run P w = .ok v w
def ResVs (P : Program) (w : World) (tmps : Array Value) : List ResultVar → List Value → Prop
  | [], vs => vs = []
  | r :: l, vs => ∃ v vs', vs = v :: vs' ∧ ResV P w tmps r v ∧ ResVs P w tmps l vs'
variable {ty : Types}
theorem giveR_sound (tok : TyOK P ty) {a : Act} {I : CS} {s s' : St} {hr : Nat → HR} (R : StRel w I s hr a.tmps) {rv : ResultVar} {t : Ty} {flat : Bool} {sh : Sh} {x : t.den} (hq : (giveR ty s t flat rv).Is (sh, x, s')) :
    ∃ I' hr' cs f, StRel w I' s' hr' a.tmps ∧ Trans w I s.home? hr w I' s'.home? hr' ∧ ResV P w a.tmps rv (toVal t cs) ∧ Air w I' (tot s'.home? hr') t sh x cs f ∧ Sub f (tot s.home? hr) := by
  cases rv with
  | tmp n =>
    obtain ⟨I', hr', cs, f, R', T', ev, air, sf, _⟩ := giveQ_sound R hq
    exact ⟨I', hr', cs, f, R', T', ev.symm, air, sf⟩
  | cell n T =>
    simp only [giveR, Q.is_bind', atQ_is] at hq
    obtain ⟨v, hv, hq⟩ := hq
    have hr0 := at_rel R hv
    cases v <;> simp only [Q.is_fail] at hq
    rename_i h p
    simp only [Q.is_bind', isT_is] at hq
    obtain ⟨_, hT, hq⟩ := hq
    have res : ∀ {H : Home} {b o : Nat} {csp : List Value}, LocH w (un (hr h).fp I) H (hr h).cs p (some (b, o), csp) → a.eval (.tmp n) = .pointer (some ⟨b, o, none⟩) → csp.length = t.size → ResV P w a.tmps (.cell n T) (toVal t csp) := by
      intro H b o csp l1 e1 hl
      have := run_load' tok hT (loc_cells l1) hl
      have e1 : a.tmps.getD n undef = .pointer (some ⟨b, o, none⟩) := e1
      simp only [ResV, e1, asAddr, Sem.run_bind, Sem.run_pure, Result.andThen_ok]
      simpa only [Instr.loadAt, Instr.sureAddr, Sem.run_bind, Sem.run_pure, Result.andThen_ok] using this
    cases flat with
    | true =>
      simp only [cond_true, Q.is_bind', Q.is_of, Q.is_pure] at hq
      obtain ⟨⟨v, s1⟩, hf, y, hy, e⟩ := hq
      simp only [Prod.mk.injEq] at e
      obtain ⟨rfl, rfl, rfl⟩ := e
      obtain ⟨H, hH, I', hr', R', T', _, _, _, k⟩ := freeze_sound R hf
      obtain ⟨ok, b, o, csp, l1, e1⟩ := hr0 H hH
      obtain ⟨ty', rep⟩ := k ok _ _ _ l1
      cases TV.as_some.1 hy
      exact ⟨I', hr', csp, non, R', T', res l1 e1 (RepC_len rep), ⟨RepO_flat.2 rep, fun _ _ h => h.elim, fun _ _ h => h.elim, fun _ _ h => h.elim⟩, fun _ _ h => h.elim⟩
    | false =>
      simp only [cond_false, Q.is_bind', Q.is_of, Q.is_pure] at hq
      obtain ⟨⟨Hp, s1⟩, ht, y, hy, e⟩ := hq
      simp only [Prod.mk.injEq] at e
      obtain ⟨rfl, rfl, rfl⟩ := e
      obtain ⟨H, hH, k⟩ := take_air R ht
      obtain ⟨ok, b, o, csp, l1, e1⟩ := hr0 H hH
      obtain ⟨hr', f, R', T', ty', air, sf, _⟩ := k ok _ _ _ l1
      obtain ⟨sh, t0, x0, bx, io, d⟩ := Hp
      cases TV.as_some.1 hy
      exact ⟨I, hr', csp, f, R', T', res l1 e1 (RepO_len air.rep), air, sf⟩
theorem retsQ_sound (tok : TyOK P ty) {a : Act} : ∀ {l : List ResultVar} {r : RetT} {x : r.den} {I : CS} {s s' : St} {hr : Nat → HR}, StRel w I s hr a.tmps → (retsQ ty s l r).Is (x, s') →
    ∃ I' hr' vs, StRel w I' s' hr' a.tmps ∧ Trans w I s.home? hr w I' s'.home? hr' ∧ RetsAir w I' (un (tot s.home? hr) (new w)) (tot s'.home? hr') r x vs ∧ ResVs P w a.tmps l vs
  | [], .nil, x, I, s, s', hr, R, hq => by
    simp only [retsQ, Q.is_ret, Prod.mk.injEq] at hq
    obtain ⟨_, rfl⟩ := hq
    exact ⟨I, hr, [], R, .refl .., rfl, rfl⟩
  | [], .cons _ _ _, x, I, s, s', hr, R, hq => by simp only [retsQ, Q.is_fail] at hq
  | _ :: l, .nil, x, I, s, s', hr, R, hq => by simp only [retsQ, Q.is_fail] at hq
  | rv :: l, .cons sh t r, x, I, s, s', hr, R, hq => by
    simp only [retsQ, Q.is_bind', Q.is_must, Q.is_pure] at hq
    obtain ⟨⟨shg, y, s1⟩, hg, _, hle, ⟨x2, s2⟩, hr2, e⟩ := hq
    simp only [Prod.mk.injEq] at e
    obtain ⟨rfl, rfl⟩ := e
    obtain ⟨I1, hr1, cs, f, R1, T1, ev, air, sf⟩ := giveR_sound tok R hg
    obtain ⟨z, f', z1, z2, z3, rep⟩ := RepO_le hle air.rep
    obtain ⟨R2, T2⟩ := freeze_air R1 (fun b o x => air.tot b o (z1 b o x)) (fun b o x => air.old b o (z1 b o x)) T1 (fun b o x => .inl (sf b o (z1 b o x)))
    have air2 : Air w (un I1 z) (tot s1.home? hr1) t sh y cs f' := ⟨rep, fun b o x => air.tot b o (z2 b o x), fun b o x y => y.elim (air.imm b o (z2 b o x)) fun y => z3 b o y x, fun b o x => air.old b o (z2 b o x)⟩
    obtain ⟨I', hr', vs, R', T', ra, hv⟩ := retsQ_sound tok R2 hr2
    have hd : Disj f' (un (tot s1.home? hr1) (new w)) := fun b o x y => y.elim (air2.tot b o x) fun y => absurd (air2.old b o x) (Nat.not_lt.2 y)
    have hsub : Sub (un (tot s1.home? hr1) (new w)) (un (tot s.home? hr) (new w)) := fun b o x => x.elim (T1.tot b o) .inr
    exact ⟨I', hr', toVal t cs :: vs, R', T2.trans T', ⟨cs, f', vs, rfl, air2.step R2.1.old T' R2.1.dI, fun b o x => .inl (sf b o (z2 b o x)), (ra.add hd).mono0 hsub⟩, _, vs, rfl, ev, hv⟩

def retVal (vs : List Value) : Value := if h : vs.length = 1 then vs[0] else .tuple vs.toArray
theorem run_results {fn : Func} {tmps : Array Value} {vs : List Value} (h : ResVs P w tmps fn.results.toList vs) : (results fn tmps).run P w = .ok (retVal vs) w := by
  obtain ⟨F, hF, ht, hc⟩ : ∃ F : ResultVar → Sem Value, results fn tmps = (do let vs ← fn.results.mapM F; pure (if h : vs.size = 1 then vs[0] else .tuple vs)) ∧ (∀ t, F (.tmp t) = pure (tmps.getD t undef)) ∧ ∀ n T, F (.cell n T) = (do loadVar T (← asAddr (tmps.getD n undef))) := ⟨_, rfl, fun t => rfl, fun n T => rfl⟩
  have key : ∀ (l : List ResultVar) (vs : List Value), ResVs P w tmps l vs → (l.mapM F).run P w = .ok vs w := by
    intro l
    induction l with
    | nil => intro vs h; have h : vs = [] := h; subst h; rfl
    | cons a l ih =>
      rintro vs ⟨v, vs', rfl, h1, h2⟩
      have : (F a).run P w = .ok v w := by
        cases a with
        | tmp n => rw [ht, show v = _ from h1]; rfl
        | cell n T => rw [hc]; exact h1
      simp only [List.mapM_cons, Sem.run_bind, this, Sem.run_pure, Result.andThen_ok, ih vs' h2]
  rw [hF, Array.mapM_eq_mapM_toList]
  have := key _ _ h
  simp [this, retVal]

theorem retId_ne {d i j : Nat} (h : i ≠ j) : retId d i ≠ retId d j := by unfold retId; omega
theorem layRets_sound {tmps : Array Value} {I : CS} {d : Nat} {w0 : World} {I0 : CS} {hm0 : Hm} {hr0 : Nat → HR} : ∀ {r : RetT} {x : r.den} {vs : List Value} {s : St} {hr : Nat → HR} {i : Nat}, StRel w I s hr tmps → Trans w0 I0 hm0 hr0 w I s.home? hr → RetsAir w I (un (tot hm0 hr0) (new w0)) (tot s.home? hr) r x vs →
    ∃ hr', StRel w I (layRets s d i r x).1 hr' tmps ∧ Trans w0 I0 hm0 hr0 w I (layRets s d i r x).1.home? hr' ∧ AtsRel w I (layRets s d i r x).1.home? hr' (layRets s d i r x).2 vs ∧ Mild s (layRets s d i r x).1 ∧
      ∀ a v, (∀ g, refA a = some g → ∀ k, i ≤ k → g ≠ retId d k) → AtRel w I s.home? hr a v → AtRel w I (layRets s d i r x).1.home? hr' a v
  | .nil, x, vs, s, hr, i, R, T, h => by
    have h : vs = [] := h
    subst h
    exact ⟨hr, R, T, trivial, .refl s, fun _ _ _ h => h⟩
  | .cons sh t r, x, vs, s, hr, i, R, T, ⟨cs, f, vs', e, air, sf, h⟩ => by
    subst e
    by_cases hfl : sh = .flat
    · subst hfl
      obtain ⟨hr', R', T', A', M', K'⟩ := layRets_sound (d := d) (i := i + 1) R T (h.anti fun b o x => .inl x)
      exact ⟨hr', R', T', ⟨⟨cs, rfl, RepO_flat.1 (RepO_sub (.refl _) (.refl _) air.rep)⟩, A'⟩, M', fun a v hn h => K' a v (fun g hg k hk => hn g hg k (by omega)) h⟩
    · -- a home of its own
      let H : Home := ⟨sh, t, x.1, false, false, true⟩
      have R1 : StRel w I (s.newH (retId d i) H) (upd hr (retId d i) ⟨cs, f⟩) tmps := add_home R (H := H) air.rep air.tot air.imm air.old
      have T1 : Trans w0 I0 hm0 hr0 w I (s.newH (retId d i) H).home? (upd hr (retId d i) ⟨cs, f⟩) := by
        refine ⟨T.fr, T.sub, T.imm, ?_, ?_⟩
        · rintro b o ⟨g, G, hG, x⟩
          rw [home?_newH] at hG
          by_cases e : retId d i = g
          · subst e; rw [upd_same] at x; exact sf b o x
          · rw [if_neg e] at hG; rw [upd_ne e] at x; exact T.tot b o ⟨g, G, hG, x⟩
        · intro g G hG io
          rw [home?_newH] at hG
          by_cases e : retId d i = g
          · subst e; rw [if_pos rfl] at hG; cases hG; cases io
          · rw [if_neg e] at hG
            obtain ⟨G0, h1, h2, h3, h4, h5⟩ := T.io g G hG io
            exact ⟨G0, h1, h2, h3, h4, by rw [upd_ne e]; exact h5⟩
      have hsub : Sub (tot (s.newH (retId d i) H).home? (upd hr (retId d i) ⟨cs, f⟩)) (un (tot s.home? hr) f) := by
        rintro b o ⟨g, G, hG, x⟩
        rw [home?_newH] at hG
        by_cases e : retId d i = g
        · subst e; rw [upd_same] at x; exact .inr x
        · rw [if_neg e] at hG; rw [upd_ne e] at x; exact .inl ⟨g, G, hG, x⟩
      obtain ⟨hr', R', T', A', M', K'⟩ := layRets_sound (d := d) (i := i + 1) R1 T1 (h.anti hsub)
      have hl : layRets s d i (.cons sh t r) x = ((layRets (s.newH (retId d i) H) d (i + 1) r x.2).1, .rf (retId d i) [] :: (layRets (s.newH (retId d i) H) d (i + 1) r x.2).2) := by
        cases sh <;> first | exact absurd rfl hfl | rfl
      have hev : AtRel w I (s.newH (retId d i) H).home? (upd hr (retId d i) ⟨cs, f⟩) (.rf (retId d i) []) (toVal t cs) :=
        ev_val (w := w) (I := I) (H := H) (cs := cs) (fp := f) (by rw [home?_newH, if_pos rfl]) rfl (by rw [upd_same])
      rw [hl]
      refine ⟨hr', R', T', ⟨K' _ _ (fun g hg k hk => by cases hg; exact retId_ne (by omega)) hev, A'⟩, ((Mild.refl s).newH _ rfl).trans M', fun a v hn ha => K' a v (fun g hg k hk => hn g hg k (by omega)) ?_⟩
      refine AtRel_stay (.refl _) (Keep.refl _ _) (fun g hg => ?_) ha
      have e : retId d i ≠ g := fun e => hn g hg i (Nat.le_refl _) e.symm
      cases hG : s.home? g with
      | none => exact .inl (by rw [home?_newH, if_neg e]; exact hG)
      | some G => exact .inr ⟨G, G, hG, by rw [home?_newH, if_neg e]; exact hG, rfl, rfl, by rw [upd_ne e], Keep.refl _ _, by rw [upd_ne e]; exact .refl _⟩
theorem layRet_sound {a : Act} {I : CS} {d : Nat} {w0 : World} {I0 : CS} {hm0 : Hm} {hr0 : Nat → HR} {r : RetT} {x : r.den} {vs : List Value} {s : St} {hr : Nat → HR} (R : StRel w I s hr a.tmps) (hd : d < s.n) (T : Trans w0 I0 hm0 hr0 w I s.home? hr)
    (h : RetsAir w I (un (tot hm0 hr0) (new w0)) (tot s.home? hr) r x vs) : ∃ hr', StRel w I (layRet s d r x) hr' (a.tmps.setIfInBounds d (retVal vs)) ∧ Trans w0 I0 hm0 hr0 w I (layRet s d r x).home? hr' ∧ Mild s (layRet s d r x) := by
  obtain ⟨hr', R', T', A', M', _⟩ := layRets_sound (d := d) (i := 0) R T h
  have hd' : d < a.tmps.size := Nat.lt_of_lt_of_le (by rw [M'.n]; exact hd) R'.2.2
  unfold layRet
  generalize layRets s d 0 r x = q at R' T' A' M'
  obtain ⟨s1, l⟩ := q
  simp only at R' T' A' M'
  match l, vs, A' with
  | [], [], _ =>
    refine ⟨hr', set_slot R' hd' (e := .tup []) ?_, T', M'.set d _⟩
    exact ⟨[], rfl, trivial⟩
  | [b], [v], ⟨h1, _⟩ => exact ⟨hr', set_slot R' hd' (e := .at b) h1, T', M'.set d _⟩
  | b :: c :: l, v :: u :: vs, hA =>
    refine ⟨hr', set_slot R' hd' (e := .tup (b :: c :: l)) ?_, T', M'.set d _⟩
    exact ⟨v :: u :: vs, by simp [retVal], hA⟩
end Go.VM
