/- A typed evaluator of the model and its soundness, part 2: for every program whose types pass a check. -/
import Derived.MapKept
import Derived.Laws.Tables
import Derived.Laws.Strings
import Derived.WideShapes
import Derived.ChangeMaps5
import Derived.Orders
import Derived.Test.YtjemgnhklipcjaaDoorVmMountPicksTakeWhatThereIs1
/- Soundness, part 14: elements, lengths, parts of slices. -/
namespace Go.VM
variable {P : Program} {ty : Types}

theorem toVal_agg {t : Ty} (h : isAggT t = true) (cs : List Value) : toVal t cs = .agg cs.toArray := by simp [toVal, h]
theorem run_part (tok : TyOK P ty) {T : TypeId} {t : Ty} (h : ty.ty T = some t) {w : World} {cs : List Value} {off : Nat} (hl : off + t.size ≤ cs.length) : (part T cs.toArray off).run P w = .ok (toVal t ((cs.drop off).take t.size)) w := by
  unfold part toVal
  simp only [Sem.run_bind, run_isAgg' tok h, Result.andThen_ok]
  cases ha : isAggT t with
  | true =>
    have : cs.toArray.extract off (off + t.size) = ((cs.drop off).take t.size).toArray := by
      apply Array.ext'
      simp [List.take_drop, Nat.add_comm]
    simp [run_sizeOf' tok h, this]
  | false =>
    have hs : t.size = 1 := by cases t <;> first | rfl | cases ha
    rw [hs] at hl ⊢
    have : off < cs.length := by omega
    have h2 : (cs.drop off).take 1 = [cs[off]] := by rw [List.drop_eq_getElem_cons this]; rfl
    simp [List.getElem?_eq_getElem this, h2]

theorem op_field (tok : TyOK P ty) {o : Oper} {a : Act} {w : World} {I : CS} {s s' : St} {hr : Nat → HR} {d T0 : Nat} {T : TypeId} {x : Operand} {f : Nat} (R : StRel w I s hr a.tmps) (hd : d < s.n) (ho : o.op = .field T x f) (hq : (op1Q ty s d T0 (.field T x f)).Is s') : Done P o a w I s hr d s' := by
  simp only [op1Q, Q.is_bind', isT_is, Q.is_of, Q.is_pure] at hq
  obtain ⟨v, hv, _, hT, u, hu, rfl⟩ := hq
  obtain ⟨cs, e1, r1⟩ := pv_rel R hv
  obtain ⟨fs, F, h1, h2, h3, h4⟩ := fit_struct tok hT hu
  obtain ⟨l1, r2⟩ := rep_field r1 hu
  have hagg : isAggT v.1 = true := by
    obtain ⟨t, x0⟩ := v
    cases t <;> cases f <;> simp only [fieldPath, getP] at hu <;> first | rfl | cases hu
  refine done_pure R hd (v := toVal u.1 ((cs.drop (offP v.1 f)).take u.1.size)) ?_ ⟨_, rfl, r2⟩
  have := run_part (P := P) tok h3 (w := w) l1
  simp only [execOp, ho, e1, toVal_agg hagg, Instr.field, Sem.run_bind, run_underlying h1, Result.andThen_ok]
  simp [h2, asAgg, h4, this]

theorem asList_is {v : TV} {l : (e : Ty) × List e.den} (h : asList v = some l) : v = ⟨.sl l.1, l.2⟩ := by
  obtain ⟨t, x⟩ := v; cases t <;> simp only [asList] at h <;> cases h; rfl
theorem asArr_is {v : TV} {l : (_ : Nat) × (e : Ty) × List e.den} (h : asArr v = some l) : v = ⟨.arr l.1 l.2.1, l.2.2⟩ := by
  obtain ⟨t, x⟩ := v; cases t <;> simp only [asArr] at h <;> cases h; rfl
theorem asStr_is {v : TV} {b : ByteArray} (h : asStr v = some b) : v = ⟨.str, b⟩ := by
  obtain ⟨t, x⟩ := v; cases t <;> simp only [asStr] at h <;> cases h; rfl
theorem inB_is {i : Int} {n : Nat} : inB i n = true ↔ 0 ≤ i ∧ i < n := by simp [inB]

theorem op_index (tok : TyOK P ty) {o : Oper} {a : Act} {w : World} {I : CS} {s s' : St} {hr : Nat → HR} {d T0 : Nat} {T : TypeId} {x i : Operand} (R : StRel w I s hr a.tmps) (hd : d < s.n) (ho : o.op = .index T x i) (hq : (op1Q ty s d T0 (.index T x i)).Is s') : Done P o a w I s hr d s' := by
  simp only [op1Q, Q.is_bind', isT_is] at hq
  obtain ⟨n, hn, v, hv, _, hT, hq⟩ := hq
  have en := int_rel R hn
  obtain ⟨cs, e1, r1⟩ := pv_rel R hv
  have hdsc := tok.desc T v.1 hT
  cases hb : asStr v with
  | some b =>
    simp only [hb, Q.is_bind', Q.is_req, inB_is, Q.is_pure] at hq
    obtain ⟨_, ⟨h0, h1⟩, rfl⟩ := hq
    have := asStr_is hb
    subst this
    simp only [RepC] at r1
    obtain ⟨rfl, _⟩ := r1
    simp only [FitD] at hdsc
    rw [toVal_one rfl] at e1
    refine done_pure R hd ?_ (pv_int .u8 _)
    simp only [execOp, ho, e1, en, Instr.index, Sem.run_bind, asIntOf, Sem.run_pure, Result.andThen_ok, run_underlying hdsc]
    have hlt : n.2.toNat < b.size := by omega
    have h2 : n.2.toNat < b.data.size := hlt
    have h3 : b.data.toList.getD n.2.toNat 0 = b.data[n.2.toNat] := by rw [List.getD_eq_getElem?_getD, Array.getElem?_toList, Array.getElem?_eq_getElem h2]; rfl
    have : b[n.2.toNat]? = some (b.data.toList.getD n.2.toNat 0) := by rw [getElem?_pos b n.2.toNat hlt, h3]; rfl
    simp [h0, this, strAt]
  | none =>
    simp only [hb, Q.is_bind', Q.is_req, inB_is, Q.is_pure, Q.is_of] at hq
    obtain ⟨l, hl, _, ⟨h0, h1⟩, rfl⟩ := hq
    have := asArr_is hl
    subst this
    obtain ⟨m, e, l⟩ := l
    simp only [FitD] at hdsc
    obtain ⟨E, hu, hE⟩ := hdsc
    have hlen := RepC_len r1
    simp only [Ty.size] at hlen
    simp only [RepC] at r1
    simp only at h1 e1 hn en r1 ⊢
    have hi : n.2.toNat < m := by omega
    have hil : n.2.toNat < List.length l := by rw [r1.1]; exact hi
    have hm : (n.2.toNat + 1) * e.size ≤ m * e.size := Nat.mul_le_mul_right _ hi
    rw [Nat.add_mul, Nat.one_mul] at hm
    refine done_pure R hd (v := toVal e ((cs.drop (n.2.toNat * e.size)).take e.size)) ?_ ⟨_, rfl, r1.2.2 _ _ (getD_of hil)⟩
    have hp := run_part (P := P) tok hE (w := w) (cs := cs) (off := n.2.toNat * e.size) (by omega)
    simp only [execOp, ho, e1, en, toVal_agg (t := .arr m e) rfl, Instr.index, Sem.run_bind, asIntOf, Sem.run_pure, Result.andThen_ok, run_underlying hu]
    simp [h0, h1, run_sizeOf' tok hE, hp]

/-- the elements at a place that holds a slice -/
theorem elemsQ_is {s : St} {h : Nat} {p : Path} {l : (e : Ty) × List e.den} : (s.elemsQ h p).Is l ↔ ∃ H sh, s.home? h = some H ∧ (lookQ H.t H.x H.sh p).Is (sh, ⟨.sl l.1, l.2⟩) ∧ sh.whole = true := by
  simp only [St.elemsQ, Q.is_bind', seeQ_is, Q.is_of]
  constructor
  · rintro ⟨v, ⟨H, sh, h1, h2, h3⟩, h4⟩; rw [asList_is h4] at h2; exact ⟨H, sh, h1, h2, h3⟩
  · rintro ⟨H, sh, h1, h2, h3⟩; exact ⟨_, ⟨H, sh, h1, h2, h3⟩, rfl⟩
/-- a slice's header, whatever its shape -/
theorem slice_hdr {w : World} {I : CS} {e : Ty} {sh : Sh} {l : List e.den} {cs : List Value} {f : CS} (h : RepO w I (.sl e) sh l cs f) (hw : sh.whole = true) : ∃ ad cap, cs = [.slice ad l.length cap] ∧ l.length ≤ cap ∧
    ∃ b off, (l.length = 0 ∨ ad = some ⟨b, off, none⟩) := by
  cases sh with
  | flat => rw [RepO_flat] at h; simp only [RepC] at h; obtain ⟨ad, len, cap, e1, e2, e3, b, off, e4, _⟩ := h; subst e2; exact ⟨ad, cap, e1, e3.1, b, off, e4⟩
  | own u => simp only [RepO] at h; obtain ⟨ad, len, cap, e1, e2, e3, b, off, _, e4, _⟩ := h; subst e2; exact ⟨ad, cap, e1, e3.1, b, off, e4.imp (fun h => by omega) id⟩
  | len u => simp only [RepO] at h; obtain ⟨ad, len, cap, e1, e2, e3, b, off, _, e4, _⟩ := h; subst e2; exact ⟨ad, cap, e1, e3.1, b, off, e4.imp (fun h => by omega) id⟩
  | pr _ _ => simp only [RepO] at h
  | hole => cases hw
  | ownX _ _ _ => cases hw
  | mapO => simp only [RepO] at h

theorem hdrQ_is {s : St} {h : Nat} {p : Path} {l : (e : Ty) × List e.den} : (s.hdrQ h p).Is l ↔ ∃ H sh, s.home? h = some H ∧ (lookQ H.t H.x H.sh p).Is (sh, ⟨.sl l.1, l.2⟩) ∧ sh.hdr = true := by
  simp only [St.hdrQ, Q.is_bind', look_is, Q.is_must, Q.is_of]
  constructor
  · rintro ⟨⟨sh, v⟩, ⟨H, h1, h2⟩, _, h3, h4⟩; exact ⟨H, sh, h1, by have := asList_is h4; simp only at this; rw [← this]; exact h2, h3⟩
  · rintro ⟨H, sh, h1, h2, h3⟩; exact ⟨(sh, _), ⟨H, h1, h2⟩, (), h3, rfl⟩
/-- an element of a slice lies somewhere -/
theorem loc_idx {w : World} {I : CS} {e : Ty} {sh : Sh} {l : List e.den} {cs : List Value} {f : CS} {loc : Option (Nat × Nat)} {i : Nat} (h : RepO w I (.sl e) sh l cs f) (hw : sh.hdr = true) (hi : i < l.length) :
    ∃ b off cap ci, cs = [.slice (some ⟨b, off, none⟩) l.length cap] ∧ l.length ≤ cap ∧ LocIn w (un f I) (.sl e) loc cs [.idx i] (some (b, off + i * e.size), ci) := by
  have own : ∀ {R : Nat → e.den → List Value → CS → Prop} {room : Bool}, SlO w R room e.size l cs f → ∃ b off cap ci, cs = [.slice (some ⟨b, off, none⟩) l.length cap] ∧ l.length ≤ cap ∧ LocIn w (un f I) (.sl e) loc cs [.idx i] (some (b, off + i * e.size), ci) := by
    intro R room h
    obtain ⟨a, len, cap, rfl, e2, e3, b, off, fs, e4, h1, h2, h3, h4⟩ := h
    subst e2
    obtain ⟨ci, l1, c, r⟩ := h2 i _ (getD_of (d := e.zero) hi)
    rcases e4 with h0 | rfl
    · omega
    refine ⟨b, off, cap, ci, rfl, e3.1, ?_⟩
    simp only [LocIn]
    refine ⟨b, off, _, cap, ci, rfl, l1, c, fun j hj => .inl ?_, by cases e <;> rfl⟩
    have h5 : i + 1 ≤ (bif room then cap else l.length) := by cases room <;> simp <;> omega
    have := Nat.mul_le_mul_right e.size h5
    rw [Nat.add_mul, Nat.one_mul] at this
    have := (h1 (i * e.size + j) (by omega)).2.2
    rwa [← Nat.add_assoc] at this
  cases sh with
  | flat =>
    rw [RepO_flat] at h; simp only [RepC] at h
    obtain ⟨ad, len, cap, rfl, e2, e3, b, off, e4, g⟩ := h
    subst e2
    obtain ⟨ci, l1, c, r, hI⟩ := g i _ (getD_of (d := e.zero) hi)
    rcases e4 with h0 | rfl
    · omega
    refine ⟨b, off, cap, ci, rfl, e3.1, ?_⟩
    simp only [LocIn]
    exact ⟨b, off, _, cap, ci, rfl, l1, c, fun j hj => .inr (hI j hj), by cases e <;> rfl⟩
  | own u => simp only [RepO] at h; exact own h
  | len u => simp only [RepO] at h; exact own h
  | ownX u k v => simp only [RepO] at h; exact own h
  | _ => cases hw

theorem run_indexAt (tok : TyOK P ty) {T : TypeId} {e : Ty} (hT : ty.ty T = some (.sl e)) {w : World} {b off len cap : Nat} {k : IntKind} {n : Int} (h0 : 0 ≤ n) (h1 : n < len) :
    (Instr.indexAt T (.slice (some ⟨b, off, none⟩) len cap) (.int k n)).run P w = .ok (.pointer (some ⟨b, off + n.toNat * e.size, none⟩)) w := by
  have hd := tok.desc T _ hT
  simp only [FitD] at hd
  obtain ⟨E, hu, hE⟩ := hd
  simp [Instr.indexAt, asIntOf, run_underlying hu, h0, h1, run_sizeOf' tok hE, Addr.add_mid]

/-- an element's address, within a place that holds a slice -/
theorem loc_elem {w : World} {S : CS} {e : Ty} {loc : Option (Nat × Nat)} {v : Value} {i : Nat} {r : Option (Nat × Nat) × List Value} (h : LocIn w S (.sl e) loc [v] [.idx i] r) : ∃ b off len cap, v = .slice (some ⟨b, off, none⟩) len cap ∧ r.1 = some (b, off + i * e.size) := by
  simp only [LocIn] at h
  obtain ⟨b, off, len, cap, ci, e1, _, _, _, e5⟩ := h
  simp only [List.cons.injEq, and_true] at e1
  exact ⟨b, off, len, cap, e1, by rw [e5]⟩

theorem op_indexAddr (tok : TyOK P ty) {o : Oper} {a : Act} {w : World} {I : CS} {s s' : St} {hr : Nat → HR} {d T0 : Nat} {T : TypeId} {x i : Operand} (R : StRel w I s hr a.tmps) (hd : d < s.n) (ho : o.op = .indexAddr T x i) (hq : (op1Q ty s d T0 (.indexAddr T x i)).Is s') : Done P o a w I s hr d s' := by
  simp only [op1Q, indexAddrQ, Q.is_bind', atQ_is] at hq
  obtain ⟨n, hn, v, hv, hq⟩ := hq
  have en := int_rel R hn
  have hr0 := at_rel R hv
  cases v <;> simp only [Q.is_fail] at hq
  · rename_i v
    simp only [Q.is_bind', Q.is_of, isT_is, Q.is_req, inB_is, Q.is_pure] at hq
    obtain ⟨l, hl, _, hT, _, ⟨h0, h1⟩, rfl⟩ := hq
    have := asList_is hl
    subst this
    obtain ⟨e, l⟩ := l
    obtain ⟨cs, e1, c⟩ := hr0
    have := locSl ((RepO_flat (fp := non)).2 c) rfl e1
    subst this
    simp only [RepC] at c
    obtain ⟨ad, len, cap, e2, e3, e4, b, off, e5, g⟩ := c
    simp only [List.cons.injEq, and_true] at e2
    simp only at h1
    have hi : n.2.toNat < l.length := by omega
    rcases e5 with h | rfl
    · omega
    obtain ⟨ci, l1, c1, r1, i1⟩ := g _ _ (getD_of (d := e.zero) hi)
    refine done_pure R hd (v := .pointer (some ⟨b, off + n.2.toNat * e.size, none⟩)) ?_ ⟨b, _, ci, rfl, r1, c1, fun j hj => i1 j (by omega)⟩
    simp only [execOp, ho, e2, en, Sem.run_bind, run_indexAt tok hT h0 (show n.2 < (len : Int) by omega), Result.andThen_ok, Sem.run_pure]
  · rename_i v
    simp only [Q.is_bind', Q.is_of, isT_is, Q.is_req, inB_is, Q.is_pure] at hq
    obtain ⟨l, hl, _, hT, _, ⟨h0, h1⟩, rfl⟩ := hq
    have := asArr_is hl
    subst this
    obtain ⟨m, e, l⟩ := l
    obtain ⟨b, o', cs, e1, c, c1, i1⟩ := hr0
    have hdsc := tok.desc T _ hT
    simp only [FitD] at hdsc
    obtain ⟨E, hu, hE⟩ := hdsc
    have hlen := RepC_len c
    simp only [Ty.size] at hlen
    simp only [RepC] at c
    simp only at h1 c ⊢
    have hi : n.2.toNat < m := by omega
    have hil : n.2.toNat < List.length l := by rw [c.1]; exact hi
    have hm : (n.2.toNat + 1) * e.size ≤ m * e.size := Nat.mul_le_mul_right _ hi
    rw [Nat.add_mul, Nat.one_mul] at hm
    refine done_pure R hd (v := .pointer (some ⟨b, o' + n.2.toNat * e.size, none⟩)) ?_ ⟨b, _, _, rfl, c.2.2 _ _ (getD_of hil), fun j val hj => ?_, fun j hj => ?_⟩
    · simp only [execOp, ho, e1, en, Instr.indexAt, Sem.run_bind, asIntOf, Sem.run_pure, Result.andThen_ok, run_underlying hu]
      simp [h0, h1, run_sizeOf' tok hE, Addr.add_mid, Instr.sureAddr]
    · have hj2 : j < e.size := by have := (List.getElem?_eq_some_iff.1 hj).1; simp at this; omega
      rw [List.getElem?_take_of_lt hj2, List.getElem?_drop] at hj
      rw [Nat.add_assoc]; exact c1 _ _ hj
    · have hj2 : j < e.size := by simp at hj; omega
      rw [Nat.add_assoc]; exact i1 _ (by omega)
  · rename_i h p
    simp only [Q.is_bind', hdrQ_is, isT_is, Q.is_req, inB_is, Q.is_pure] at hq
    obtain ⟨l, ⟨H, sh, hH, hl, hw⟩, _, hT, _, ⟨h0, h1⟩, rfl⟩ := hq
    obtain ⟨e, l⟩ := l
    obtain ⟨ok, loc, csp, t, l1, ty', rr⟩ := hr0 H hH
    obtain ⟨fpp, rep, sf⟩ := look_home R hH ok hl l1
    have := look_type2 hl ty'
    simp only at this h1
    subst this
    have := locSl rep rfl rr
    subst this
    have hi : n.2.toNat < l.length := by omega
    obtain ⟨b, off, cap, ci, e1, e2, l2⟩ := loc_idx (loc := loc) rep hw hi
    simp only [List.cons.injEq, and_true] at e1
    refine done_pure R hd (v := .pointer (some ⟨b, off + n.2.toNat * e.size, none⟩)) ?_ ?_
    · simp only [execOp, ho, e1, en, Sem.run_bind, run_indexAt tok hT h0 h1, Result.andThen_ok, Sem.run_pure]
    · intro H2 hH2
      rw [hH] at hH2; cases hH2
      have okk : okP H.t H.x (p ++ [.idx n.2.toNat]) := (okP_app ok hl).2 (by simp only [okP]; exact ⟨hi, trivial⟩)
      exact ⟨okk, b, off + n.2.toNat * e.size, ci, (LocH_app ty').2 ⟨loc, _, l1, LocIn_keep (fun _ _ q => q.elim (fun q => .inl (sf _ _ q)) .inr) (Keep.refl _ _) l2⟩, rfl⟩
  · rename_i h p lo hi
    simp only [Q.is_bind', hdrQ_is, isT_is, Q.is_req, inB_is, Q.is_pure] at hq
    obtain ⟨l, ⟨H, sh, hH, hl, hw⟩, _, hT, _, ⟨h0, h1⟩, rfl⟩ := hq
    obtain ⟨e, l⟩ := l
    obtain ⟨ok, hlo, loc, ad, len, cap, e', l1, ty', hhi, hcap, ad', rr, had⟩ := hr0 H hH
    obtain ⟨fpp, rep, sf⟩ := look_home R hH ok hl l1
    have := look_type2 hl ty'
    simp only [Ty.sl.injEq] at this h1
    subst this
    have hlen : len = l.length := by
      cases sh <;> first
        | (cases hw; done)
        | (rw [RepO_flat] at rep; simp only [RepC] at rep; obtain ⟨_, _, _, q, q2, _⟩ := rep; simp at q; omega)
        | (simp only [RepO] at rep; obtain ⟨_, _, _, q, q2, _⟩ := rep; simp at q; omega)
    have hi' : lo + n.2.toNat < l.length := by omega
    obtain ⟨b, off, cap2, ci, e1, e2, l2⟩ := loc_idx (loc := loc) rep hw hi'
    simp only [List.cons.injEq, Value.slice.injEq, and_true] at e1
    obtain ⟨rfl, rfl, rfl⟩ := e1
    have had := had.resolve_left (by omega)
    simp only [Option.map_some, Addr.add_mid] at had
    subst had
    refine done_pure R hd (v := .pointer (some ⟨b, off + (lo + n.2.toNat) * e.size, none⟩)) ?_ ?_
    · simp only [execOp, ho, rr, en, Sem.run_bind, run_indexAt tok hT h0 h1, Result.andThen_ok, Sem.run_pure]
      rw [Nat.add_mul, Nat.add_assoc]
    · intro H2 hH2
      rw [hH] at hH2; cases hH2
      have okk : okP H.t H.x (p ++ [.idx (lo + n.2.toNat)]) := (okP_app ok hl).2 (by simp only [okP]; exact ⟨hi', trivial⟩)
      exact ⟨okk, b, off + (lo + n.2.toNat) * e.size, ci, (LocH_app ty').2 ⟨loc, _, l1, LocIn_keep (fun _ _ q => q.elim (fun q => .inl (sf _ _ q)) .inr) (Keep.refl _ _) l2⟩, rfl⟩
  · rename_i h p
    simp only [Q.is_bind', seeQ_is, Q.is_of, isT_is, Q.is_req, inB_is, Q.is_pure] at hq
    obtain ⟨v, ⟨H, sh, hH, hl, hw⟩, l, hl', _, hT, _, ⟨h0, h1⟩, rfl⟩ := hq
    have := asArr_is hl'
    subst this
    obtain ⟨m, e, l⟩ := l
    obtain ⟨ok, b, o', csp, l1, e1⟩ := hr0 H hH
    obtain ⟨fpp, rep, sf⟩ := look_home R hH ok hl l1
    have hdsc := tok.desc T _ hT
    simp only [FitD] at hdsc
    obtain ⟨E, hu, hE⟩ := hdsc
    simp only at h1 hl rep
    have hfl : sh = .flat := by cases sh <;> first | rfl | (cases hw; done) | (simp only [RepO] at rep; done)
    subst hfl
    have rep := RepO_flat.1 rep
    simp only [RepC] at rep
    have hi : n.2.toNat < m := by omega
    have hl2 := (look_app (q := [.idx n.2.toNat]) (r2 := (.flat, ⟨e, List.getD l n.2.toNat e.zero⟩)) hl).2 (by simp only [lookQ, Q.is_ret])
    refine done_pure R hd (v := .pointer (some ⟨b, o' + n.2.toNat * e.size, none⟩)) ?_ ?_
    · simp only [execOp, ho, e1, en, Instr.indexAt, Sem.run_bind, asIntOf, Sem.run_pure, Result.andThen_ok, run_underlying hu]
      simp [h0, h1, run_sizeOf' tok hE, Addr.add_mid, Instr.sureAddr]
    · intro H2 hH2
      rw [hH] at hH2; cases hH2
      have okk : okP H.t H.x (p ++ [.idx n.2.toNat]) := (okP_app ok hl).2 (by simp only [okP]; exact ⟨hi, trivial⟩)
      refine ⟨okk, b, o' + n.2.toNat * e.size, ?_⟩
      obtain ⟨loc2, csp2, fpp2, l2, _, _⟩ := lookH (R.1.home h H hH) okk hl2
      obtain ⟨l3, c3, g1, g2⟩ := (LocH_app (look_type hl)).1 l2
      cases LocH_det l1 g1
      simp only [LocIn] at g2
      have : loc2 = some (b, o' + n.2.toNat * e.size) := by simp only [Prod.mk.injEq, Option.map_some] at g2; exact g2.1
      subst this
      exact ⟨csp2, l2, rfl⟩
end Go.VM
/- Soundness, part 15: parts of slices and strings, lengths, loads, functions. -/
namespace Go.VM
variable {P : Program} {ty : Types}

theorem run_sliceBound {w : World} {k : IntKind} {n : Int} {y : Nat} {c : BoundsCode} (h0 : 0 ≤ n) (h1 : n ≤ y) : (Instr.sliceBound (.int k n) y c).run P w = .ok n.toNat w := by
  simp [Instr.sliceBound, asIntOf, h0, h1]
theorem bounds_sound {w : World} {I : CS} {s : St} {hr : Nat → HR} {a : Act} (R : StRel w I s hr a.tmps) {n cap : Nat} {lo hi : Option Operand} {r : Nat × Nat} (hq : (boundsQ s n lo hi).Is r) (hc : n ≤ cap) (b : Bool) :
    (Instr.sliceBounds b n cap (lo.map a.eval) (hi.map a.eval) none).run P w = .ok (r.1, r.2, cap) w ∧ r.1 ≤ r.2 ∧ r.2 ≤ n := by
  simp only [boundsQ, Q.is_bind', Q.is_pure] at hq
  obtain ⟨h, hh, l, hl, rfl⟩ := hq
  have h1 : h ≤ n ∧ (match hi.map a.eval with | some v => (Instr.sliceBound v cap (if b then .sliceAcap else .sliceAlen)).run P w = .ok h w | none => h = n) := by
    cases hi with
    | none => simp only [hiQ, Q.is_ret] at hh; subst hh; exact ⟨Nat.le_refl _, rfl⟩
    | some o =>
      simp only [hiQ, Q.is_bind', Q.is_req, Q.is_pure, Bool.and_eq_true, decide_eq_true_eq] at hh
      obtain ⟨x, hx, _, ⟨g0, g1⟩, rfl⟩ := hh
      refine ⟨by omega, ?_⟩
      simp only [Option.map_some, int_rel R hx]
      exact run_sliceBound g0 (by omega)
  have h2 : l ≤ h ∧ (match lo.map a.eval with | some v => (Instr.sliceBound v h .sliceB).run P w = .ok l w | none => l = 0) := by
    cases lo with
    | none => simp only [loQ, Q.is_ret] at hl; subst hl; exact ⟨Nat.zero_le _, rfl⟩
    | some o =>
      simp only [loQ, Q.is_bind', Q.is_req, Q.is_pure, Bool.and_eq_true, decide_eq_true_eq] at hl
      obtain ⟨x, hx, _, ⟨g0, g1⟩, rfl⟩ := hl
      refine ⟨by omega, ?_⟩
      simp only [Option.map_some, int_rel R hx]
      exact run_sliceBound g0 g1
  refine ⟨?_, h2.1, h1.1⟩
  obtain ⟨_, h1⟩ := h1
  obtain ⟨_, h2⟩ := h2
  unfold Instr.sliceBounds
  cases e1 : hi.map a.eval <;> cases e2 : lo.map a.eval <;> rw [e1] at h1 <;> rw [e2] at h2 <;> simp only at h1 h2
  all_goals first | (subst h1 h2; simp; done) | (subst h1; simp [h2]; done) | (subst h2; simp [h1]; done) | (simp [h1, h2]; done)

theorem under_not_arr {T : TypeId} {d : TypeDesc} (h : P.underlying T = some d) (hn : ∀ n e, d ≠ .array n e) (w : World) (x : Value) (lo hi : Option Value) : (Instr.sliceAt T x lo hi none).run P w = (Instr.slice T x lo hi none).run P w := by
  unfold Instr.sliceAt
  simp only [Sem.run_bind, run_underlying h, Result.andThen_ok]
  try (cases d <;> first | rfl | exact absurd rfl (hn _ _))
theorem run_slice_slice (tok : TyOK P ty) {T : TypeId} {e : Ty} (hT : ty.ty T = some (.sl e)) {w : World} {a : Option Addr} {len cap l h : Nat} {lo hi : Option Value}
    (hb : (Instr.sliceBounds true len cap lo hi none).run P w = .ok (l, h, cap) w) : (Instr.sliceAt T (.slice a len cap) lo hi none).run P w = .ok (.slice (if cap = l then a else a.map (·.add (l * e.size))) (h - l) (cap - l)) w := by
  have hd := tok.desc T _ hT
  simp only [FitD] at hd
  obtain ⟨E, hu, hE⟩ := hd
  rw [under_not_arr hu (by intro n e h; cases h)]
  simp [Instr.slice, run_underlying hu, hb, run_sizeOf' tok hE]

theorem op_slice (tok : TyOK P ty) {o : Oper} {a : Act} {w : World} {I : CS} {s s' : St} {hr : Nat → HR} {d T0 : Nat} {T : TypeId} {x : Operand} {lo hi : Option Operand} (R : StRel w I s hr a.tmps) (hd : d < s.n) (ho : o.op = .slice T x lo hi none) (hq : (op1Q ty s d T0 (.slice T x lo hi none)).Is s') : Done P o a w I s hr d s' := by
  simp only [op1Q, sliceQ, Q.is_bind', atQ_is] at hq
  obtain ⟨v, hv, hq⟩ := hq
  have hr0 := at_rel R hv
  cases v <;> simp only [Q.is_fail] at hq
  · rename_i v
    cases hb : asStr v with
    | some b =>
      simp only [hb, Q.is_bind', isT_is, Q.is_pure] at hq
      obtain ⟨_, hT, r, hbd, rfl⟩ := hq
      have := asStr_is hb
      subst this
      obtain ⟨cs, e1, c⟩ := hr0
      simp only [RepC] at c
      obtain ⟨rfl, cb⟩ := c
      rw [toVal_one rfl] at e1
      obtain ⟨g1, g2, g3⟩ := bounds_sound (P := P) R hbd (Nat.le_refl _) false
      have hdsc := tok.desc T _ hT
      simp only [FitD] at hdsc
      refine done_pure R hd ?_ (pv_str _ (by rw [ByteArray.size_extract]; omega))
      simp only [execOp, ho, e1, Sem.run_bind, Option.map_none]
      rw [under_not_arr hdsc (by intro n e h; cases h)]
      simp [Instr.slice, run_underlying hdsc, g1]
    | none =>
      simp only [hb, Q.is_bind', isT_is, Q.is_pure, Q.is_of] at hq
      obtain ⟨l, hl, _, hT, r, hbd, rfl⟩ := hq
      have := asList_is hl
      subst this
      obtain ⟨e, l⟩ := l
      obtain ⟨cs, e1, c⟩ := hr0
      have := locSl ((RepO_flat (fp := non)).2 c) rfl e1
      subst this
      obtain ⟨ad, cap, e2, e3, b, off, e4⟩ := slice_hdr ((RepO_flat (fp := non)).2 c) rfl
      simp only [List.cons.injEq, and_true] at e2
      simp only at e3 e2 hbd
      obtain ⟨g1, g2, g3⟩ := bounds_sound (P := P) R hbd e3 true
      refine done_pure R hd (v := .slice (if cap = r.1 then ad else ad.map (·.add (r.1 * e.size))) (r.2 - r.1) (cap - r.1)) ?_ ⟨[_], (toVal_one rfl _).symm, ?_⟩
      · simp only [execOp, ho, e2, Sem.run_bind, Option.map_none, run_slice_slice tok hT g1, Result.andThen_ok, Sem.run_pure]
      · rw [e2] at c
        refine RepC_cut c g2 g3 ?_
        by_cases h : cap = r.1
        · exact .inl h
        · right; rw [if_neg h]
  · rename_i h p
    simp only [Q.is_bind', elemsQ_is, isT_is, Q.is_pure] at hq
    obtain ⟨l, ⟨H, sh, hH, hl, hw⟩, _, hT, r, hbd, rfl⟩ := hq
    obtain ⟨e, l⟩ := l
    obtain ⟨ok, loc, csp, t, l1, ty', rr⟩ := hr0 H hH
    obtain ⟨fpp, rep, sf⟩ := look_home R hH ok hl l1
    have := look_type2 hl ty'
    simp only at this hbd
    subst this
    have := locSl rep rfl rr
    subst this
    obtain ⟨ad, cap, e1, e2, b, off, e3⟩ := slice_hdr rep hw
    simp only [List.cons.injEq, and_true] at e1
    simp only at e2 e1
    obtain ⟨g1, g2, g3⟩ := bounds_sound (P := P) R hbd e2 true
    refine done_pure R hd (v := .slice (if cap = r.1 then ad else ad.map (·.add (r.1 * e.size))) (r.2 - r.1) (cap - r.1)) ?_ ?_
    · simp only [execOp, ho, e1, Sem.run_bind, Option.map_none, run_slice_slice tok hT g1, Result.andThen_ok, Sem.run_pure]
    · intro H2 hH2
      rw [hH] at hH2; cases hH2
      refine ⟨ok, g2, loc, ad, l.length, cap, e, by rw [← e1]; exact l1, ty', g3, e2, _, rfl, ?_⟩
      by_cases h : cap = r.1
      · exact .inl h
      · right; rw [if_neg h]
  · rename_i h p lo' hi'
    simp only [Q.is_bind', elemsQ_is, isT_is, Q.is_pure] at hq
    obtain ⟨l, ⟨H, sh, hH, hl, hw⟩, _, hT, r, hbd, rfl⟩ := hq
    obtain ⟨e, l⟩ := l
    obtain ⟨ok, hlo, loc, ad, len, cap, e', l1, ty', hhi, hcap, ad', rr, had⟩ := hr0 H hH
    obtain ⟨fpp, rep, sf⟩ := look_home R hH ok hl l1
    have := look_type2 hl ty'
    simp only [Ty.sl.injEq] at this hbd
    subst this
    obtain ⟨g1, g2, g3⟩ := bounds_sound (P := P) R hbd (show hi' - lo' ≤ cap - lo' by omega) true
    refine done_pure R hd (v := .slice (if cap - lo' = r.1 then ad' else ad'.map (·.add (r.1 * e.size))) (r.2 - r.1) (cap - lo' - r.1)) ?_ ?_
    · simp only [execOp, ho, rr, Sem.run_bind, Option.map_none, run_slice_slice tok hT g1, Result.andThen_ok, Sem.run_pure]
    · intro H2 hH2
      rw [hH] at hH2; cases hH2
      refine ⟨ok, by omega, loc, ad, len, cap, e, l1, ty', by omega, hcap, _, by rw [show lo' + r.2 - (lo' + r.1) = r.2 - r.1 by omega, show cap - (lo' + r.1) = cap - lo' - r.1 by omega], ?_⟩
      by_cases h : cap - lo' = r.1
      · left; omega
      · right
        rw [if_neg h]
        have had := had.resolve_left (by omega)
        subst had
        cases ad with
        | none => rfl
        | some x =>
          simp only [Option.map_some, Option.some.injEq]
          have hadd : ∀ (y : Addr) (n m : Nat), (y.add n).add m = y.add (n + m) := by
            intro y n m
            unfold Addr.add
            by_cases h1 : n = 0
            · subst h1; simp
            · by_cases h2 : m = 0
              · subst h2; simp
              · simp [h1, h2, Nat.add_assoc]
          rw [hadd, Nat.add_mul]

theorem asMap_is {v : TV} {l : (k : Ty) × (v : Ty) × List (k.den × v.den)} (h : asMap v = some l) : v = ⟨.mp l.1 l.2.1, l.2.2⟩ := by
  obtain ⟨t, x⟩ := v; cases t <;> simp [asMap] at h; rw [← h]
theorem map_hdr {w : World} {I : CS} {k v : Ty} {sh : Sh} {l : List (k.den × v.den)} {cs : List Value} {f : CS} (h : RepO w I (.mp k v) sh l cs f) (hw : sh.whole = true) :
    (cs = [.map none] ∧ l = []) ∨ ∃ b, cs = [.map (some b)] ∧ MapAt w (fun x u => ∃ c, u = toVal k c ∧ RepC w I k x c) (fun y u => ∃ c, u = toVal v c ∧ RepC w I v y c) l b := by
  cases sh with
  | flat => rw [RepO_flat] at h; simp only [RepC] at h; exact h.imp id fun ⟨b, e, _, m⟩ => ⟨b, e, m⟩
  | mapO => simp only [RepO] at h; obtain ⟨b, e, _, m⟩ := h; exact .inr ⟨b, e, m⟩
  | hole => cases hw
  | _ => simp only [RepO] at h
theorem op_len (tok : TyOK P ty) {o : Oper} {a : Act} {w : World} {I : CS} {s s' : St} {hr : Nat → HR} {d : Nat} {T : TypeId} {Ts : List TypeId} {x : Operand} {n : Int} {c : Call} (R : StRel w I s hr a.tmps) (hd : d < s.n) (ho : o.op = .call c) (hc : c.callee = .builtin .len) (ha : c.args.toList = [x]) (hT : c.argTypes.toList = T :: Ts)
    (hq : (lenQ ty s T x).Is n) : Done P o a w I s hr d (s.set d (.at (.pv ⟨.int .i64, n⟩))) := by
  have hargs : c.args = #[x] := by cases h : c.args; rw [h] at ha; simp at ha; rw [ha]
  have hTs : c.argTypes[0]? = some T := by rw [← Array.getElem?_toList, hT]; rfl
  have run : ∀ v, a.eval x = v → (Builtin.len_ c.argTypes o.type #[v]).run P w = .ok (.int .i64 n) w → (execOp a.eval o).run P w = .ok (.value (.int .i64 n)) w := by
    intro v hv h
    simp [execOp, ho, resolve, hc, hargs, invoke, builtin, hv, h]
  simp only [lenQ, Q.is_bind', atQ_is] at hq
  obtain ⟨v, hv, hq⟩ := hq
  have hr0 := at_rel R hv
  have slc : ∀ {e : Ty} {ad len cap}, ty.ty T = some (.sl e) → (Builtin.len_ c.argTypes o.type #[.slice ad len cap]).run P w = .ok (.int .i64 len) w := by
    intro e ad len cap hT
    have hdsc := tok.desc T _ hT
    simp only [FitD] at hdsc
    obtain ⟨E, hu, hE⟩ := hdsc
    simp [Builtin.len_, hTs, run_underlying hu, goInt]
  cases v <;> simp only [Q.is_fail] at hq
  · rename_i v
    cases hb : asStr v with
    | some b =>
      simp only [hb, Q.is_bind', isT_is, Q.is_pure] at hq
      obtain ⟨_, hT, rfl⟩ := hq
      have := asStr_is hb
      subst this
      obtain ⟨cs, e1, c⟩ := hr0
      simp only [RepC] at c
      obtain ⟨rfl, cb⟩ := c
      rw [toVal_one rfl] at e1
      have hdsc := tok.desc T _ hT
      simp only [FitD] at hdsc
      exact done_pure R hd (run _ e1 (by simp [Builtin.len_, hTs, run_underlying hdsc, goInt])) (pv_int _ _)
    | none =>
      simp only [hb, Q.is_bind', isT_is, Q.is_pure, Q.is_of] at hq
      obtain ⟨l, hl, _, hT, rfl⟩ := hq
      have := asList_is hl
      subst this
      obtain ⟨cs, e1, c⟩ := hr0
      have := locSl ((RepO_flat (fp := non)).2 c) rfl e1
      subst this
      obtain ⟨ad, cap, e2, e3, b, off, e4⟩ := slice_hdr ((RepO_flat (fp := non)).2 c) rfl
      simp only [List.cons.injEq, and_true] at e2
      exact done_pure R hd (run _ e2 (slc hT)) (pv_int _ _)
  · split at hq
    · rename_i h
      rw [Q.is_ret] at hq
      subst hq
      exact done_pure R hd (run _ hr0 (slc h)) (pv_int _ _)
    · rw [Q.is_fail] at hq; exact hq.elim
  · rename_i h p
    simp only [Q.is_bind', seeQ_is] at hq
    obtain ⟨v, ⟨H, sh, hH, hl, hw⟩, hq⟩ := hq
    obtain ⟨ok, loc, csp, t, l1, ty', rr⟩ := hr0 H hH
    obtain ⟨fpp, rep, sf⟩ := look_home R hH ok hl l1
    have := look_type2 hl ty'
    subst this
    cases hm : asMap v with
    | some l =>
      simp only [hm, Q.is_bind', isT_is, Q.is_pure] at hq
      obtain ⟨_, hT, rfl⟩ := hq
      have := asMap_is hm
      subst this
      obtain ⟨mk, mv, ml⟩ := l
      simp only at run hT rep hl ⊢
      have := locSl rep rfl rr
      subst this
      have hdsc := tok.desc T _ hT
      simp only [FitD] at hdsc
      obtain ⟨K, V, hu, _, _⟩ := hdsc
      rcases map_hdr rep hw with ⟨e1, e2⟩ | ⟨b, e1, es, clock, e2, e3, _⟩
      · simp only [List.cons.injEq, and_true] at e1
        subst e2
        exact done_pure R hd (run _ e1 (by simp [Builtin.len_, hTs, run_underlying hu, goInt])) (pv_int _ _)
      · simp only [List.cons.injEq, and_true] at e1
        exact done_pure R hd (run _ e1 (by rw [← e3]; simp [Builtin.len_, hTs, run_underlying hu, goInt, MapKept.run_getObj_map e2])) (pv_int _ _)
    | none =>
      simp only [hm, Q.is_bind', isT_is, Q.is_pure, Q.is_of] at hq
      obtain ⟨l, hl', _, hT, rfl⟩ := hq
      have := asList_is hl'
      subst this
      have := locSl rep rfl rr
      subst this
      obtain ⟨ad, cap, e1, e2, b, off, e3⟩ := slice_hdr rep hw
      simp only [List.cons.injEq, and_true] at e1
      exact done_pure R hd (run _ e1 (slc hT)) (pv_int _ _)
  · rename_i h p lo hi
    simp only [Q.is_bind', elemsQ_is, isT_is, Q.is_pure] at hq
    obtain ⟨l, ⟨H, sh, hH, hl, hw⟩, _, hT, rfl⟩ := hq
    obtain ⟨ok, hlo, loc, ad, len, cap, e', l1, ty', hhi, hcap, ad', rr, had⟩ := hr0 H hH
    exact done_pure R hd (run _ rr (slc hT)) (pv_int _ _)

/-- what lies at a place lies in the cells there -/
theorem loc_cells {w : World} {S : CS} {H : Home} {cs : List Value} {p : Path} {b o' : Nat} {csp : List Value} (l1 : LocH w S H cs p (some (b, o'), csp)) : CellsAt w b o' csp := by
  have aux : ∀ {p : Path} {t : Ty} {loc : Option (Nat × Nat)} {cs : List Value} {S : CS}, (∀ b o, loc = some (b, o) → CellsAt w b o cs) → LocIn w S t loc cs p (some (b, o'), csp) → CellsAt w b o' csp := by
    intro p
    induction p with
    | nil => intro t loc cs S h1 h; have : (some (b, o'), csp) = (loc, cs) := by cases t <;> simpa only [LocIn] using h
             cases this; exact h1 _ _ rfl
    | cons st p ih =>
      intro t loc cs S h1 h
      cases t <;> cases st <;> simp only [LocIn] at h
      · obtain ⟨b1, off, len, cap, ci, _, l1, c1, _, h5⟩ := h
        exact ih (fun _ _ e => by cases e; exact c1) h5
      · refine ih (fun b o e => ?_) h
        have := h1 b o e
        intro j v hj
        rename_i t1 t2
        have hj2 : j < t1.size := by have := (List.getElem?_eq_some_iff.1 hj).1; simp at this; omega
        rw [List.getElem?_take_of_lt hj2] at hj
        exact this j v hj
      · refine ih (fun b o e => ?_) h
        cases loc with
        | none => cases e
        | some l =>
          simp only [Option.map_some, Option.some.injEq, Prod.mk.injEq] at e
          obtain ⟨rfl, rfl⟩ := e
          intro j v hj
          rw [List.getElem?_drop] at hj
          have := h1 _ _ rfl _ _ hj
          rwa [← Nat.add_assoc] at this
      · rename_i n e i
        refine ih (fun b o e' => ?_) h
        cases loc with
        | none => cases e'
        | some l =>
          simp only [Option.map_some, Option.some.injEq, Prod.mk.injEq] at e'
          obtain ⟨rfl, rfl⟩ := e'
          intro j v hj
          have hj2 : j < e.size := by have := (List.getElem?_eq_some_iff.1 hj).1; simp at this; omega
          rw [List.getElem?_take_of_lt hj2, List.getElem?_drop] at hj
          have := h1 _ _ rfl _ _ hj
          rwa [← Nat.add_assoc] at this
  unfold LocH at l1
  split at l1
  · exact aux (fun _ _ e => by cases e) l1
  · exact aux (fun _ _ e => by cases e) l1
theorem op_load (tok : TyOK P ty) {o : Oper} {a : Act} {w : World} {I : CS} {s s' : St} {hr : Nat → HR} {d T0 : Nat} {T : TypeId} {x : Operand} (R : StRel w I s hr a.tmps) (hd : d < s.n) (ho : o.op = .load T x) (hq : (op1Q ty s d T0 (.load T x)).Is s') : Done P o a w I s hr d s' := by
  simp only [op1Q, loadQ, Q.is_bind', atQ_is] at hq
  obtain ⟨v, hv, hq⟩ := hq
  have hr0 := at_rel R hv
  cases v <;> simp only [Q.is_fail] at hq
  · rename_i v
    simp only [Q.is_bind', isT_is, Q.is_pure] at hq
    obtain ⟨_, hT, rfl⟩ := hq
    obtain ⟨b, o', cs, e1, c, c1, i1⟩ := hr0
    refine done_pure R hd (v := toVal v.1 cs) ?_ ⟨cs, rfl, c⟩
    simp only [execOp, ho, e1, Sem.run_bind, run_load' tok hT c1 (RepC_len c), Result.andThen_ok, Sem.run_pure]
  · rename_i h p
    simp only [Q.is_bind', look_is, isT_is] at hq
    obtain ⟨r, ⟨H, hH, hl⟩, _, hT, hq⟩ := hq
    obtain ⟨ok, b, o', csp, l1, e1⟩ := hr0 H hH
    obtain ⟨fpp, rep, sf⟩ := look_home R hH ok hl l1
    have cells : CellsAt w b o' csp := loc_cells l1
    have hrun : (execOp a.eval o).run P w = .ok (.value (toVal r.2.1 csp)) w := by
      simp only [execOp, ho, e1, Sem.run_bind, run_load' tok hT cells (RepO_len rep), Result.andThen_ok, Sem.run_pure]
    have asRf : (s.set d (.at (.rf h p))) = s' → Done P o a w I s hr d s' := by
      rintro rfl
      refine done_pure R hd hrun (fun H2 hH2 => ?_)
      rw [hH] at hH2; cases hH2
      exact ⟨ok, _, csp, r.2.1, l1, look_type hl, rfl⟩
    obtain ⟨sh, tv⟩ := r
    cases sh with
    | flat =>
      simp only [Q.is_ret] at hq
      subst hq
      exact done_pure R hd hrun ⟨csp, rfl, RepO_flat.1 rep⟩
    | own u => simp only [Q.is_ret] at hq; exact asRf hq
    | len u => simp only [Q.is_ret] at hq; exact asRf hq
    | pr u v =>
      simp only [Q.is_bind', Q.is_pure] at hq
      obtain ⟨⟨q, s1⟩, hf, rfl⟩ := hq
      obtain ⟨H2, hH2, I', hr', R', T', _, _, _, k⟩ := freeze_sound R hf
      rw [hH] at hH2; cases hH2
      obtain ⟨t1, rep2⟩ := k ok _ _ _ l1
      have hty := look_type hl
      rw [t1] at hty
      simp only [Option.some.injEq] at hty
      refine ⟨_, w, I', hr', hrun, set_slot R' (Nat.lt_of_lt_of_le hd R.2.2) (v := toVal tv.1 csp) ?_, T'⟩
      exact ⟨csp, by rw [hty], rep2⟩
    | mapO => simp only [Q.is_ret] at hq; exact asRf hq
    | hole => simp only [Q.is_fail] at hq
    | ownX _ _ _ => simp only [Q.is_fail] at hq

theorem AtsRel_get {w : World} {I : CS} {hm : Hm} {hr : Nat → HR} : ∀ {l : List At} {vs : List Value} {i : Nat} {a : At}, AtsRel w I hm hr l vs → l[i]? = some a → ∃ v, vs[i]? = some v ∧ AtRel w I hm hr a v
  | _ :: _, _ :: _, 0, _, h, e => by simp at e; subst e; exact ⟨_, rfl, h.1⟩
  | _ :: _, _ :: _, i + 1, _, h, e => by simp at e; obtain ⟨v, h1, h2⟩ := AtsRel_get h.2 e; exact ⟨v, by simpa using h1, h2⟩
theorem op_extract {o : Oper} {a : Act} {w : World} {I : CS} {s s' : St} {hr : Nat → HR} {d T0 : Nat} {x : Operand} {i : Nat} (R : StRel w I s hr a.tmps) (hd : d < s.n) (ho : o.op = .extract x i) (hq : (op1Q ty s d T0 (.extract x i)).Is s') : Done P o a w I s hr d s' := by
  simp only [op1Q] at hq
  have h0 := ev_rel R x
  cases hv : s.ev x <;> simp only [hv, Q.is_fail] at hq
  rename_i l
  simp only [Q.is_bind', Q.is_of, Q.is_pure] at hq
  obtain ⟨b, hb, rfl⟩ := hq
  rw [hv] at h0
  obtain ⟨vs, e1, r⟩ := h0
  obtain ⟨v, h1, h2⟩ := AtsRel_get r hb
  refine done_pure R hd (v := v) ?_ h2
  simp [execOp, ho, e1, Instr.extract, h1]

theorem capsQ_sound {w : World} {I : CS} {s : St} {hr : Nat → HR} {a : Act} (R : StRel w I s hr a.tmps) : ∀ {l : List Operand} {r : List At}, (capsQ s l).Is r → AtsRel w I s.home? hr r (l.map a.eval)
  | [], r, h => by simp only [capsQ, Q.is_ret] at h; subst h; trivial
  | o :: l, r, h => by
    simp only [capsQ, Q.is_bind', atQ_is, Q.is_pure] at h
    obtain ⟨x, hx, y, hy, rfl⟩ := h
    exact ⟨at_rel R hx, capsQ_sound R hy⟩
theorem op_makeFunc {o : Oper} {a : Act} {w : World} {I : CS} {s s' : St} {hr : Nat → HR} {d T0 : Nat} {fn : Fn} {first caps : Array Operand} (R : StRel w I s hr a.tmps) (hd : d < s.n) (ho : o.op = .makeFunc fn first caps) (hq : (op1Q ty s d T0 (.makeFunc fn first caps)).Is s') : Done P o a w I s hr d s' := by
  simp only [op1Q] at hq
  split at hq
  · rename_i f hf
    have : first = #[] := by cases first; simpa using hf
    subst this
    simp only [Q.is_bind', Q.is_pure] at hq
    obtain ⟨l, hl, rfl⟩ := hq
    refine done_pure R hd (v := .func (.func f) #[] (caps.map a.eval)) ?_ ⟨caps.toList.map a.eval, by cases caps; simp, capsQ_sound R hl⟩
    simp [execOp, ho, Instr.makeFunc]
  · rw [Q.is_fail] at hq; exact hq.elim
theorem op_nilCheck {o : Oper} {a : Act} {w : World} {I : CS} {s s' : St} {hr : Nat → HR} {d T0 : Nat} {x : Operand} (R : StRel w I s hr a.tmps) (hd : d < s.n) (ho : o.op = .nilCheck x) (hq : (op1Q ty s d T0 (.nilCheck x)).Is s') : Done P o a w I s hr d s' := by
  simp only [op1Q] at hq
  have h0 := ev_rel R x
  cases hv : s.ev x with
  | tup l => simp only [hv, Q.is_fail] at hq
  | fn f l =>
    simp only [hv, Q.is_ret] at hq
    subst hq
    rw [hv] at h0
    have h1 := h0
    obtain ⟨vs, e1, r⟩ := h0
    refine done_pure R hd (v := a.eval x) ?_ h1
    simp [execOp, ho, e1]
  | «at» v =>
    cases v <;> simp only [hv, Q.is_fail, Q.is_ret] at hq
    · subst hq
      rw [hv] at h0
      have h1 := h0
      obtain ⟨b, o', cs, e1, _⟩ := h0
      refine done_pure R hd (v := a.eval x) ?_ h1
      simp [execOp, ho, e1]
    · rename_i h p
      simp only [Q.is_bind', homeQ_is, Q.is_pure] at hq
      obtain ⟨H, hH, rfl⟩ := hq
      rw [hv] at h0
      have h1 := h0
      obtain ⟨ok, b, o', csp, l1, e1⟩ := h0 H hH
      refine done_pure R hd (v := a.eval x) ?_ h1
      simp [execOp, ho, e1]
end Go.VM
/- Soundness, part 16: new memory. -/
namespace Go.VM
variable {P : Program} {ty : Types}

/-- the world with one block more -/
structure Alloc (c : Array Value) (E : TypeId) (w w' : World) : Prop where
  os : w'.os = w.os
  tape : w'.tape = w.tape
  output : w'.output = w.output
  heap : w'.heap = w.heap.push (.cells c E (0, 0))
theorem Alloc.size {c : Array Value} {E : TypeId} {w w' : World} (h : Alloc c E w w') : w'.heap.size = w.heap.size + 1 := by rw [h.heap, Array.size_push]
theorem Alloc.old {c : Array Value} {E : TypeId} {w w' : World} (h : Alloc c E w w') {b : Nat} (hb : b < w.heap.size) : w'.heap[b]? = w.heap[b]? := by
  rw [h.heap, Array.getElem?_push, if_neg (by omega)]
theorem Alloc.same {c : Array Value} {E : TypeId} {w w' : World} (h : Alloc c E w w') {b : Nat} (hb : b < w.heap.size) (o : Nat) : Same w w' b o :=
  ⟨by simp only [World.cell?, h.old hb], by simp only [World.frozen?, h.old hb], fun es c e => by rw [h.old hb]; exact e⟩
theorem Alloc.fr {c : Array Value} {E : TypeId} {w w' : World} (h : Alloc c E w w') (T : CS) : Fr T w w' :=
  ⟨h.os, h.tape, h.output, by rw [h.size]; omega, fun b hb _ => h.old hb, fun b o hb _ => h.same hb o⟩
theorem Alloc.cell {c : Array Value} {E : TypeId} {w w' : World} (h : Alloc c E w w') (o : Nat) : w'.cell? ⟨w.heap.size, o, none⟩ = c[o]? := by
  simp [World.cell?, h.heap]
theorem Alloc.unfrozen {c : Array Value} {E : TypeId} {w w' : World} (h : Alloc c E w w') (o : Nat) : w'.frozen? ⟨w.heap.size, o, none⟩ = false := by
  simp [World.frozen?, h.heap]
theorem Alloc.keep {c : Array Value} {E : TypeId} {w w' : World} (h : Alloc c E w w') {a : CS} (ha : ∀ b o, a b o → b < w.heap.size) : Keep w w' a := fun b o x => h.same (ha b o x) o

/-- a slice in a block of its own -/
theorem new_slice {w w' : World} {I : CS} {e : Ty} {s : Sh} {l : List e.den} {c : Array Value} {E : TypeId} {cap : Nat} (A : Alloc c E w w') (els : List (List Value)) (fs : Nat → CS)
    (hl : els.length = l.length) (hcap : l.length ≤ cap ∧ l.length ≤ maxLen) (hc : cap * e.size ≤ c.size) (hcell : ∀ i ci, els[i]? = some ci → ci.length = e.size ∧ ∀ j v, ci[j]? = some v → c[i * e.size + j]? = some v)
    (hr : ∀ i y ci, l[i]? = some y → els[i]? = some ci → RepO w I e s y ci (fs i)) (aI : ∀ b o, I b o → b < w.heap.size) (af : ∀ i b o, fs i b o → b < w.heap.size) (df : ∀ i j, i ≠ j → Disj (fs i) (fs j)) :
    RepO w' I (.sl e) (.own s) l [.slice (some ⟨w.heap.size, 0, none⟩) l.length cap] (fun b o => b = w.heap.size ∨ ∃ i, fs i b o) := by
  simp only [RepO]
  refine ⟨_, _, _, rfl, rfl, hcap, w.heap.size, 0, fs, .inr rfl, ?_, ?_, ?_, df⟩
  · intro o ho
    simp only [cond_true] at ho
    have hlt : o < c.size := by omega
    rw [Nat.zero_add, A.cell, A.unfrozen]
    exact ⟨⟨c[o], Array.getElem?_eq_getElem hlt⟩, rfl, .inl rfl⟩
  · intro i y hy
    have hi : i < els.length := by rw [hl]; exact (List.getElem?_eq_some_iff.1 hy).1
    obtain ⟨g1, g2⟩ := hcell i _ (List.getElem?_eq_getElem hi)
    refine ⟨els[i], g1, fun j v hv => ?_, RepO_keep (.refl _) (A.keep aI) (A.keep (af i)) (.refl _) (hr i y _ hy (List.getElem?_eq_getElem hi))⟩
    rw [Nat.zero_add, A.cell]; exact g2 j v hv
  · exact fun i => ⟨fun b o h => .inr ⟨i, h⟩, fun o ho h => absurd (af i _ _ h) (Nat.lt_irrefl _)⟩

/-- a boxed value -/
theorem new_box {w w' : World} {I T : CS} {t : Ty} {sh : Sh} {x : t.den} {cs : List Value} {f : CS} {E : TypeId} (A : Alloc cs.toArray E w w') (h : Air w I T t sh x cs f) (aI : ∀ b o, I b o → b < w.heap.size) :
    HRel w' I ⟨sh, t, x, true, false, true⟩ [.slice (some ⟨w.heap.size, 0, none⟩) 1 1] (fun b o => b = w.heap.size ∨ f b o) := by
  have hl := RepO_len h.rep
  have := new_slice (l := [x]) (s := sh) (cap := 1) A [cs] (fun i => if i = 0 then f else non) rfl ⟨by simp, by simp [maxLen]⟩ (by simp [hl]) (fun i ci hci => by
      have : i = 0 := by have := (List.getElem?_eq_some_iff.1 hci).1; simpa using this
      subst this
      simp at hci; subst hci
      exact ⟨hl, fun j v hv => by simpa using hv⟩) (fun i y ci hy hci => by
      have : i = 0 := by have := (List.getElem?_eq_some_iff.1 hci).1; simpa using this
      subst this
      simp at hci hy; subst hci hy
      exact h.rep) aI (fun i b o hf => by
      by_cases hi : i = 0
      · rw [if_pos hi] at hf; exact h.old b o hf
      · rw [if_neg hi] at hf; exact hf.elim) (fun i j hij b o hf hg => by
      by_cases hi : i = 0
      · rw [if_neg (by omega)] at hg; exact hg.elim
      · rw [if_neg hi] at hf; exact hf.elim)
  simp only [HRel]
  refine RepO_sub (.refl _) (fun b o hh => hh.elim .inl fun ⟨i, hi⟩ => ?_) this
  by_cases h0 : i = 0
  · rw [if_pos h0] at hi; exact .inr hi
  · rw [if_neg h0] at hi; exact hi.elim

/-- a new home over new memory and what was in the air; the slot refers to it -/
theorem new_home {w w' : World} {I : CS} {s : St} {hr : Nat → HR} {tmps : Array Value} {c : Array Value} {E : TypeId} {d : Nat} {H : Home} {cs : List Value} {fp f : CS} {ev : EV} {v : Value}
    (R : StRel w I s hr tmps) (A : Alloc c E w w') (hd : d < s.n) (rel : HRel w' I H cs fp) (hfp : Sub fp (un (fun b _ => b = w.heap.size) f)) (d1 : Disj f (tot s.home? hr)) (d2 : Disj f I) (af : ∀ b o, f b o → b < w.heap.size) (hio : H.io = false)
    (hev : EvRel w' I (s.newH d H).home? (upd hr d ⟨cs, fp⟩) ev v) {w0 : World} {I0 : CS} {hm0 : Hm} {hr0 : Nat → HR} (T : Trans w0 I0 hm0 hr0 w I s.home? hr) (sf : Sub f (un (tot hm0 hr0) (new w0))) :
    StRel w' I ((s.newH d H).set d ev) (upd hr d ⟨cs, fp⟩) (tmps.setIfInBounds d v) ∧ Trans w0 I0 hm0 hr0 w' I ((s.newH d H).set d ev).home? (upd hr d ⟨cs, fp⟩) := by
  have nw : ∀ b o, fp b o → b < w'.heap.size := fun b o x => by rw [A.size]; exact (hfp b o x).elim (fun y => by rw [y]; omega) fun y => Nat.lt_succ_of_lt (af b o y)
  -- the elder state in the new world
  have R' : StRel w' I s hr tmps := by
    obtain ⟨Rr, Rs, Rn⟩ := R
    have kI := A.keep Rr.old
    refine ⟨⟨fun g G hG => HRel_keep (.refl _) kI (A.keep (Rr.oldf g G hG)) (.refl _) (Rr.home g G hG), Rr.disj, Rr.apart, fun b o x => by rw [A.size]; exact Nat.lt_succ_of_lt (Rr.old b o x), fun g G hG b o x => by rw [A.size]; exact Nat.lt_succ_of_lt (Rr.oldf g G hG b o x)⟩, fun n => ?_, Rn⟩
    have := EvRel_map (f := id) (w' := w') (I' := I) (hm' := s.home?) (hr' := hr) (fun a r ha => AtRel_stay (.refl _) kI (fun g _ => by
      cases hG : s.home? g with
      | none => exact .inl hG
      | some G => exact .inr ⟨G, G, hG, hG, rfl, rfl, rfl, A.keep fun b o x => x.elim (Rr.oldf g G hG b o) (Rr.old b o), .refl _⟩) ha) (Rs n)
    rwa [EV.map_id] at this
  have dN : ∀ b o, b = w.heap.size → ¬ tot s.home? hr b o ∧ ¬ I b o := fun b o h => ⟨fun x => by have := R.1.oldT b o x; omega, fun x => by have := R.1.old b o x; omega⟩
  have R2 := add_home R' (d := d) rel (fun b o x y => (hfp b o x).elim (fun z => (dN b o z).1 y) fun z => d1 b o z y) (fun b o x y => (hfp b o x).elim (fun z => (dN b o z).2 y) fun z => d2 b o z y) nw
  refine ⟨set_slot R2 (Nat.lt_of_lt_of_le hd R.2.2) hev, ⟨T.fr.trans (A.fr _) T.tot, T.sub, T.imm, ?_, ?_⟩⟩
  · rintro b o ⟨g, G, hG, x⟩
    rw [home?_set, home?_newH] at hG
    by_cases e : d = g
    · subst e
      rw [upd_same] at x
      exact (hfp b o x).elim (fun y => .inr (by show w0.heap.size ≤ b; rw [y]; exact T.fr.size)) (sf b o)
    · rw [if_neg e] at hG
      rw [upd_ne e] at x
      exact T.tot b o ⟨g, G, hG, x⟩
  · intro g G hG io
    rw [home?_set, home?_newH] at hG
    by_cases e : d = g
    · subst e; rw [if_pos rfl] at hG; cases hG; rw [hio] at io; cases io
    · rw [if_neg e] at hG
      obtain ⟨G0, h1, h2, h3, h4, h5⟩ := T.io g G hG io
      exact ⟨G0, h1, h2, h3, h4, by rw [upd_ne e]; exact h5⟩

/-- the address of a new box -/
theorem ev_box {w : World} {I : CS} {hm : Hm} {hr : Nat → HR} {d : Nat} {sh : Sh} {t : Ty} {x : t.den} {b cap : Nat} {fp : CS} (hH : hm d = some ⟨sh, t, x, true, false, true⟩)
    (hc : hr d = ⟨[.slice (some ⟨b, 0, none⟩) 1 cap], fp⟩) (rel : HRel w I ⟨sh, t, x, true, false, true⟩ [.slice (some ⟨b, 0, none⟩) 1 cap] fp) : EvRel w I hm hr (.at (.ptr d [])) (.pointer (some ⟨b, 0, none⟩)) := by
  intro H hH'
  rw [hH] at hH'; cases hH'
  simp only [HRel] at rel
  obtain ⟨b', off, cap', ci, e1, l, _, _⟩ := base_box rel
  cases e1
  refine ⟨okP_nil _ _, _, _, ci, ?_, rfl⟩
  simp only [LocH, hc]
  exact l
theorem ev_val {w : World} {I : CS} {hm : Hm} {hr : Nat → HR} {d : Nat} {H : Home} {cs : List Value} {fp : CS} (hH : hm d = some H) (hb : H.bx = false) (hc : (hr d).cs = cs) : EvRel w I hm hr (.at (.rf d [])) (toVal H.t cs) := by
  intro H' hH'
  rw [hH] at hH'; cases hH'
  refine ⟨okP_nil _ _, none, cs, H.t, ?_, typeAt_nil _, rfl⟩
  unfold LocH
  rw [hb, hc]
  cases H.t <;> simp [LocIn]

theorem op_alloc (tok : TyOK P ty) {o : Oper} {a : Act} {w : World} {I : CS} {s s' : St} {hr : Nat → HR} {d T0 : Nat} {T : TypeId} (R : StRel w I s hr a.tmps) (hd : d < s.n) (ho : o.op = .alloc T) (hq : (op1Q ty s d T0 (.alloc T)).Is s') : Done P o a w I s hr d s' := by
  simp only [op1Q, Q.is_bind', Q.is_of, Q.is_pure] at hq
  obtain ⟨t, hT, rfl⟩ := hq
  have air : Air w I (tot s.home? hr) t t.deep t.zero (zeroCells t) non := ⟨RepO_deep w I non t, fun _ _ h => h.elim, fun _ _ h => h.elim, fun _ _ h => h.elim⟩
  have hcells := toVal_cells (RepO_len air.rep) (RepO_one air.rep)
  have A : Alloc (zeroCells t).toArray T w (w.alloc (.cells (zeroCells t).toArray T)) := ⟨rfl, rfl, rfl, rfl⟩
  have rel := new_box A air R.1.old
  refine ⟨.pointer (some ⟨w.heap.size, 0, none⟩), _, I, _, ?_, new_home R A hd rel (fun b o x => x) air.tot air.imm air.old rfl (ev_box (by rw [home?_newH, if_pos rfl]) (by rw [upd_same]) rel) (.refl ..) (fun _ _ h => h.elim)⟩
  simp only [execOp, ho, Instr.alloc, Sem.run_bind, run_zeroValue' tok hT, Result.andThen_ok, newVar, newRow, hcells]
  simp

theorem op_box (tok : TyOK P ty) {o : Oper} {a : Act} {w : World} {I : CS} {s s' : St} {hr : Nat → HR} {d T0 : Nat} {T : TypeId} {x : Operand} (R : StRel w I s hr a.tmps) (hd : d < s.n) (ho : o.op = .box T x) (hq : (op1Q ty s d T0 (.box T x)).Is s') (hn : s'.n = s.n) : Done P o a w I s hr d s' := by
  simp only [op1Q, Q.is_bind', Q.is_of, Q.is_pure] at hq
  obtain ⟨t, hT, ⟨sh, y, s1⟩, hg, rfl⟩ := hq
  obtain ⟨I', hr', cs, f, R', T', e1, air, sf, _⟩ := giveQ_sound R hg
  have hcells := toVal_cells (RepO_len air.rep) (RepO_one air.rep)
  have A : Alloc cs.toArray T w (w.alloc (.cells cs.toArray T)) := ⟨rfl, rfl, rfl, rfl⟩
  have rel := new_box A air R'.1.old
  have hd' : d < s1.n := by have : s1.n = s.n := hn; omega
  refine ⟨.pointer (some ⟨w.heap.size, 0, none⟩), _, I', _, ?_, new_home R' A hd' rel (fun b o x => x) air.tot air.imm air.old rfl (ev_box (by rw [home?_newH, if_pos rfl]) (by rw [upd_same]) rel) T' (fun b o x => .inl (sf b o x))⟩
  simp only [execOp, ho, e1, Instr.box, Sem.run_bind, newVar, newRow, hcells]
  simp
end Go.VM
/- Soundness, part 17: what is frozen in the air; slices that are made. -/
namespace Go.VM
variable {P : Program} {ty : Types}

/-! ### the number of slots stays -/
theorem take_n {s : St} {h : Nat} {p : Path} {r : Home × St} (hq : (s.take h p).Is r) : r.2.n = s.n := by
  simp only [St.take, Q.is_bind', Q.is_must] at hq
  obtain ⟨H, _, q, _, _, _, hq⟩ := hq
  cases hc : (p.isEmpty && !H.bx) with
  | true => simp only [hc, cond_true, Q.is_bind', Q.is_must, Q.is_pure] at hq; obtain ⟨_, _, rfl⟩ := hq; rfl
  | false => simp only [hc, cond_false, Q.is_bind', Q.is_pure] at hq; obtain ⟨_, _, rfl⟩ := hq; rfl
theorem freeze_n {s : St} {h : Nat} {p : Path} {r : TV × St} (hq : (s.freeze h p).Is r) : r.2.n = s.n := by
  simp only [St.freeze, Q.is_bind', Q.is_must, Q.is_of, Q.is_pure] at hq
  obtain ⟨_, _, _, _, _, _, _, _, _, _, rfl⟩ := hq; rfl
theorem putP_n {s s' : St} {h : Nat} {p : Path} {n : Sh} {v : TV} (hq : (s.putP h p n v).Is s') : s'.n = s.n := by
  simp only [St.putP, Q.is_bind', Q.is_pure] at hq
  obtain ⟨_, _, _, _, rfl⟩ := hq; rfl
theorem takeSl_n {s : St} {o : Operand} {e : Ty} {r : Sh × List e.den × St} (hq : (s.takeSl o e).Is r) : r.2.2.n = s.n := by
  simp only [St.takeSl, Q.is_bind', atQ_is] at hq
  obtain ⟨x, hx, hq⟩ := hq
  cases x <;> simp only [Q.is_fail, Q.is_ret] at hq
  · subst hq; rfl
  · simp only [Q.is_bind', Q.is_of, Q.is_pure] at hq
    obtain ⟨_, ht, _, _, _, _, rfl⟩ := hq; exact take_n ht
  · simp only [Q.is_bind', Q.is_of, Q.is_pure] at hq
    obtain ⟨_, ht, _, _, _, _, rfl⟩ := hq; exact take_n ht
theorem giveQ_n {s : St} {o : Operand} {t : Ty} {flat : Bool} {r : Sh × t.den × St} (hq : (s.giveQ o t flat).Is r) : r.2.2.n = s.n := by
  simp only [St.giveQ, Q.is_bind', atQ_is] at hq
  obtain ⟨x, hx, hq⟩ := hq
  cases x <;> simp only [Q.is_fail] at hq
  · simp only [Q.is_bind', Q.is_of, Q.is_pure] at hq
    obtain ⟨_, _, rfl⟩ := hq; rfl
  · simp only [Q.is_bind', Q.is_of, Q.is_pure] at hq
    obtain ⟨_, _, rfl⟩ := hq; rfl
  · cases flat
    · simp only [cond_false, Q.is_bind', Q.is_of, Q.is_pure] at hq
      obtain ⟨_, ht, _, _, rfl⟩ := hq; exact take_n ht
    · simp only [cond_true, Q.is_bind', Q.is_of, Q.is_pure] at hq
      obtain ⟨_, ht, _, _, rfl⟩ := hq; exact freeze_n ht
  · cases flat
    · simp only [cond_false, Q.is_bind', Q.is_of, Q.is_pure] at hq
      obtain ⟨_, ht, _, _, _, _, rfl⟩ := hq; exact take_n ht
    · simp only [cond_true, Q.is_bind', Q.is_of, Q.is_pure] at hq
      obtain ⟨_, ht, _, _, _, _, rfl⟩ := hq; exact freeze_n ht

theorem EvRel_stay {w w' : World} {I I' : CS} {hm : Hm} {hr : Nat → HR} {e : EV} {v : Value} (sI : Sub I I') (kI : Keep w w' I) (kF : ∀ h H, hm h = some H → Keep w w' (hr h).fp) (he : EvRel w I hm hr e v) : EvRel w' I' hm hr e v := by
  have := EvRel_map (f := id) (w' := w') (I' := I') (hm' := hm) (hr' := hr) (fun a r ha => AtRel_stay sI kI (fun g _ => by
      cases hG : hm g with
      | none => exact .inl hG
      | some G => exact .inr ⟨G, G, hG, hG, rfl, rfl, rfl, fun b o x => x.elim (kF g G hG b o) (kI b o), fun b o x => x.elim .inl fun y => .inr (sI b o y)⟩) ha) he
  rwa [EV.map_id] at this

/-- what is in the air may be frozen -/
theorem freeze_air {w : World} {I z : CS} {s : St} {hr : Nat → HR} {tmps : Array Value} (R : StRel w I s hr tmps) (d1 : Disj z (tot s.home? hr)) (old : ∀ b o, z b o → b < w.heap.size) {w0 : World} {I0 : CS} {hm0 : Hm} {hr0 : Nat → HR}
    (T : Trans w0 I0 hm0 hr0 w I s.home? hr) (sz : Sub z (un (tot hm0 hr0) (new w0))) : StRel w (un I z) s hr tmps ∧ Trans w0 I0 hm0 hr0 w (un I z) s.home? hr := by
  have sI : Sub I (un I z) := fun _ _ x => .inl x
  obtain ⟨Rr, Rs, Rn⟩ := R
  refine ⟨⟨⟨fun h H hH => HRel_keep sI (Keep.refl _ _) (Keep.refl _ _) (.refl _) (Rr.home h H hH), Rr.disj, fun h H hH b o x y => y.elim (Rr.apart h H hH b o x) fun y => d1 b o y ⟨h, H, hH, x⟩, fun b o x => x.elim (Rr.old b o) (old b o), Rr.oldf⟩,
    fun n => EvRel_stay sI (Keep.refl _ _) (fun _ _ _ => Keep.refl _ _) (Rs n), Rn⟩, ⟨T.fr, T.sub.trans sI, fun b o x => x.elim (T.imm b o) fun y => .inr (sz b o y), T.tot, T.io⟩⟩

/-- a new home over what was in the air and what is new -/
theorem new_home' {w w' : World} {I : CS} {s : St} {hr : Nat → HR} {tmps : Array Value} {d : Nat} {H : Home} {cs : List Value} {fp f : CS} {ev : EV} {v : Value}
    (R : StRel w I s hr tmps) (A : Fr f w w') (hd : d < s.n) (rel : HRel w' I H cs fp) (hfp : Sub fp (un f (new w))) (fold : ∀ b o, fp b o → b < w'.heap.size) (d1 : Disj f (tot s.home? hr)) (d2 : Disj f I) (hio : H.io = false)
    (hev : EvRel w' I (s.newH d H).home? (upd hr d ⟨cs, fp⟩) ev v) {w0 : World} {I0 : CS} {hm0 : Hm} {hr0 : Nat → HR} (T : Trans w0 I0 hm0 hr0 w I s.home? hr) (sf : Sub f (un (tot hm0 hr0) (new w0))) :
    StRel w' I ((s.newH d H).set d ev) (upd hr d ⟨cs, fp⟩) (tmps.setIfInBounds d v) ∧ Trans w0 I0 hm0 hr0 w' I ((s.newH d H).set d ev).home? (upd hr d ⟨cs, fp⟩) := by
  have R' : StRel w' I s hr tmps := by
    obtain ⟨Rr, Rs, Rn⟩ := R
    have kI : Keep w w' I := A.keep Rr.old d2.symm
    have kF : ∀ g G, s.home? g = some G → Keep w w' (hr g).fp := fun g G hG => A.keep (Rr.oldf g G hG) fun b o x y => d1 b o y ⟨g, G, hG, x⟩
    exact ⟨⟨fun g G hG => HRel_keep (.refl _) kI (kF g G hG) (.refl _) (Rr.home g G hG), Rr.disj, Rr.apart, fun b o x => Nat.lt_of_lt_of_le (Rr.old b o x) A.size, fun g G hG b o x => Nat.lt_of_lt_of_le (Rr.oldf g G hG b o x) A.size⟩, fun n => EvRel_stay (.refl _) kI kF (Rs n), Rn⟩
  have dN : ∀ b o, new w b o → ¬ tot s.home? hr b o ∧ ¬ I b o := fun b o h => ⟨fun x => absurd (R.1.oldT b o x) (Nat.not_lt.2 h), fun x => absurd (R.1.old b o x) (Nat.not_lt.2 h)⟩
  have R2 := add_home R' (d := d) rel (fun b o x y => (hfp b o x).elim (fun z => d1 b o z y) fun z => (dN b o z).1 y) (fun b o x y => (hfp b o x).elim (fun z => d2 b o z y) fun z => (dN b o z).2 y) fold
  refine ⟨set_slot R2 (Nat.lt_of_lt_of_le hd R.2.2) hev, ⟨T.fr.trans A sf, T.sub, T.imm, ?_, ?_⟩⟩
  · rintro b o ⟨g, G, hG, x⟩
    rw [home?_set, home?_newH] at hG
    by_cases e : d = g
    · subst e
      rw [upd_same] at x
      exact (hfp b o x).elim (sf b o) fun y => .inr (new_sub T.fr.size b o y)
    · rw [if_neg e] at hG
      rw [upd_ne e] at x
      exact T.tot b o ⟨g, G, hG, x⟩
  · intro g G hG io
    rw [home?_set, home?_newH] at hG
    by_cases e : d = g
    · subst e; rw [if_pos rfl] at hG; cases hG; rw [hio] at io; cases io
    · rw [if_neg e] at hG
      obtain ⟨G0, h1, h2, h3, h4, h5⟩ := T.io g G hG io
      exact ⟨G0, h1, h2, h3, h4, by rw [upd_ne e]; exact h5⟩

theorem ev_own {w : World} {I : CS} {s : St} {hr : Nat → HR} {d : Nat} {e : Ty} {sh : Sh} {l : List e.den} {v : Value} {fp : CS} : EvRel w I (s.newH d ⟨.own sh, .sl e, l, false, false, true⟩).home? (upd hr d ⟨[v], fp⟩) (.at (.rf d [])) v := by
  have := ev_val (w := w) (I := I) (hm := (s.newH d ⟨.own sh, .sl e, l, false, false, true⟩).home?) (hr := upd hr d ⟨[v], fp⟩) (d := d) (cs := [v]) (fp := fp) (by rw [home?_newH, if_pos rfl]) rfl (by rw [upd_same])
  rwa [toVal_one rfl] at this

theorem getD_replicate_flat {cs : List Value} {sz : Nat} (h : cs.length = sz) (n i j : Nat) (hi : i < n) (hj : j < sz) : (List.replicate n cs).flatten[i * sz + j]? = cs[j]? := by
  have := flat_rep h n i hi
  have h2 : (((List.replicate n cs).flatten.drop (i * sz)).take sz)[j]? = cs[j]? := by rw [this]
  rwa [List.getElem?_take_of_lt hj, List.getElem?_drop] at h2

/-- the zero cells of so many elements, as the model makes them -/
theorem range_zero {z : List Value} {n : Nat} : ((Array.range (n * z.length)).map (fun k => z.toArray[k % z.toArray.size]!)).toList = (List.replicate n z).flatten := by
  apply List.ext_getElem?
  intro k
  simp only [Array.toList_map, Array.toList_range, List.getElem?_map, List.size_toArray]
  by_cases hk : k < n * z.length
  · have hz : 0 < z.length := by
      rcases Nat.eq_zero_or_pos z.length with h | h
      · rw [h, Nat.mul_zero] at hk; omega
      · exact h
    rw [List.getElem?_range hk]
    have h1 : k / z.length < n := by rw [Nat.div_lt_iff_lt_mul hz]; exact hk
    have h2 : k % z.length < z.length := Nat.mod_lt _ hz
    have h3 : k / z.length * z.length + k % z.length = k := by rw [Nat.mul_comm]; exact Nat.div_add_mod k z.length
    have := getD_replicate_flat (cs := z) rfl n (k / z.length) (k % z.length) h1 h2
    rw [h3] at this
    rw [this, Option.map_some]
    simp [h2]
  · rw [List.getElem?_eq_none (by simp; omega), List.getElem?_eq_none (by simp; omega)]
    rfl

theorem op_makeSlice (tok : TyOK P ty) {o : Oper} {a : Act} {w : World} {I : CS} {s s' : St} {hr : Nat → HR} {d T0 : Nat} {T : TypeId} {n c : Operand} (R : StRel w I s hr a.tmps) (hd : d < s.n) (ho : o.op = .makeSlice T n c) (hq : (op1Q ty s d T0 (.makeSlice T n c)).Is s') : Done P o a w I s hr d s' := by
  simp only [op1Q, Q.is_bind', Q.is_of, Q.is_req, Q.is_pure, Bool.and_eq_true, decide_eq_true_eq, Option.bind_eq_some_iff] at hq
  obtain ⟨e, ⟨T', hT, he⟩, n', hn, c', hc, _, ⟨⟨h0, h1⟩, h2⟩, rfl⟩ := hq
  have : T' = .sl e := by cases T' <;> simp [elemOf] at he; rw [he]
  subst this
  have en := int_rel R hn
  have ec := int_rel R hc
  obtain ⟨E, hu, hE⟩ : ∃ E, P.underlying T = some (.slice E) ∧ ty.ty E = some e := by have := tok.desc T _ hT; simpa only [FitD] using this
  obtain ⟨i, i1, i2, i3, i4⟩ := tok.info E e hE
  have hm : most = 4294967296 := rfl
  have w1 : IntKind.i64.wrap n'.2 = n'.2 := by rw [IntKind.wrap_i64]; rw [hm] at h2; omega
  have w2 : IntKind.i64.wrap c'.2 = c'.2 := by rw [IntKind.wrap_i64]; rw [hm] at h2; omega
  have hz : (toVal e (zeroCells e)).cells = (zeroCells e).toArray := toVal_cells (zeroCells_len e) (RepC_one (RepC_zero w non e))
  have hbytes : ((i.bytes : Nat) : Int) * c'.2 ≤ 281474976710656 := by
    have h3 : ((i.bytes : Nat) : Int) * c'.2 ≤ 32768 * 4294967296 := by
      refine Int.mul_le_mul (by omega) (by rw [hm] at h2; omega) (by omega) (by omega)
    omega
  let cells : Array Value := (Array.range (c'.2.toNat * e.size)).map fun k => (zeroCells e).toArray[k % (zeroCells e).toArray.size]!
  have hcl : cells.toList = (List.replicate c'.2.toNat (zeroCells e)).flatten := by
    have := range_zero (z := zeroCells e) (n := c'.2.toNat)
    rw [zeroCells_len] at this
    exact this
  have A : Alloc cells E w (w.alloc (.cells cells E)) := ⟨rfl, rfl, rfl, rfl⟩
  have hsz : cells.size = c'.2.toNat * e.size := by simp [cells]
  have hle : n'.2.toNat ≤ c'.2.toNat := by omega
  have rel := new_slice (I := I) (l := List.replicate n'.2.toNat e.zero) (s := e.deep) (cap := c'.2.toNat) A (List.replicate n'.2.toNat (zeroCells e)) (fun _ => non) (by simp) ⟨by simpa using hle, by rw [List.length_replicate]; unfold most at *; simp only [maxLen]; omega⟩ (by rw [hsz]; exact Nat.le_refl _)
    (fun k ci hk => by
      have hk' := List.getElem?_eq_some_iff.1 hk
      have hkn : k < n'.2.toNat := by simpa using hk'.1
      have : ci = zeroCells e := by rw [← hk'.2]; simp
      subst this
      refine ⟨zeroCells_len e, fun j v hv => ?_⟩
      have hj : j < e.size := by have := (List.getElem?_eq_some_iff.1 hv).1; rwa [zeroCells_len] at this
      rw [← Array.getElem?_toList, hcl, getD_replicate_flat (zeroCells_len e) _ _ _ (by omega) hj]
      exact hv) (fun k y ci hy hk => by
      have : ci = zeroCells e := by rw [← (List.getElem?_eq_some_iff.1 hk).2]; simp
      subst this
      have : y = e.zero := by rw [← (List.getElem?_eq_some_iff.1 hy).2]; simp
      subst this
      exact RepO_deep w I non e) R.1.old (fun _ _ _ h => h.elim) (fun _ _ _ _ _ h => h.elim)
  simp only [List.length_replicate] at rel
  refine ⟨.slice (some ⟨w.heap.size, 0, none⟩) n'.2.toNat c'.2.toNat, _, I, _, ?_, new_home R A hd (H := ⟨.own e.deep, .sl e, List.replicate n'.2.toNat e.zero, false, false, true⟩) rel (f := non) (fun b o x => x.imp id fun ⟨_, h⟩ => h) (fun _ _ h => h.elim) (fun _ _ h => h.elim) (fun _ _ h => h.elim) rfl ev_own (.refl ..) (fun _ _ h => h.elim)⟩
  simp only [execOp, ho, en, ec]
  have t1 : ¬ ((c'.2 < 0) ∨ ((i.bytes : Nat) : Int) * c'.2 > 2 ^ 48) := by omega
  have t2 : ¬ n'.2 < 0 := by omega
  have t3 : ¬ n'.2 > c'.2 := by omega
  have t4 : ¬ c'.2 < 0 := by omega
  have t5 : ¬ (281474976710656 < ((i.bytes : Nat) : Int) * c'.2) := by omega
  have t6 : ¬ c'.2 < n'.2 := by omega
  simp [Instr.makeSlice, run_underlying hu, asInt, asIntOf, typeInfo, i1, w1, w2, t2, t4, t5, t6, run_sizeOf' tok hE, newRow]
  split
  · rename_i hz1
    have : ∀ f g : Nat → Value, Array.map f (Array.range 0) = Array.map g (Array.range 0) := fun f g => Array.ext (by simp) (fun i h => by simp at h)
    simp only [cells, hz1]
    rw [this]
  · simp [run_zeroValue' tok hE, hz, cells]
end Go.VM
/- Soundness, part 18: 'append'. -/
namespace Go.VM
variable {P : Program} {ty : Types}

/-- cells that lie in pieces, as one row -/
theorem gather {w : World} {b off sz n : Nat} {Q : Nat → List Value → Prop} (h : ∀ i, i < n → ∃ ci : List Value, ci.length = sz ∧ CellsAt w b (off + i * sz) ci ∧ Q i ci) :
    ∃ cs : List Value, cs.length = n * sz ∧ CellsAt w b off cs ∧ ∀ i, i < n → Q i ((cs.drop (i * sz)).take sz) := by
  refine ⟨(List.range (n * sz)).map fun j => (w.cell? ⟨b, off + j, none⟩).getD undef, by simp, ?_, ?_⟩
  · intro j v hv
    have hj : j < n * sz := by have := (List.getElem?_eq_some_iff.1 hv).1; simpa using this
    have hz : 0 < sz := by
      rcases Nat.eq_zero_or_pos sz with h | h
      · rw [h, Nat.mul_zero] at hj; omega
      · exact h
    have h1 : j / sz < n := by rw [Nat.div_lt_iff_lt_mul hz]; exact hj
    have h2 : j % sz < sz := Nat.mod_lt _ hz
    have h3 : j / sz * sz + j % sz = j := by rw [Nat.mul_comm]; exact Nat.div_add_mod j sz
    obtain ⟨ci, l, c, _⟩ := h _ h1
    have := c (j % sz) ci[j % sz] (List.getElem?_eq_getElem (by omega))
    rw [Nat.add_assoc, h3] at this
    rw [List.getElem?_map, List.getElem?_range hj] at hv
    simp only [Option.map_some, Option.some.injEq, this, Option.getD_some] at hv
    rw [this, hv]
  · intro i hi
    obtain ⟨ci, l, c, q⟩ := h i hi
    have hle : i * sz + sz ≤ n * sz := by have := Nat.mul_le_mul_right sz (show i + 1 ≤ n by omega); rw [Nat.add_mul, Nat.one_mul] at this; exact this
    have : ((((List.range (n * sz)).map fun j => (w.cell? ⟨b, off + j, none⟩).getD undef).drop (i * sz)).take sz) = ci := by
      apply List.ext_getElem?
      intro j
      by_cases hj : j < sz
      · rw [List.getElem?_take_of_lt hj, List.getElem?_drop, List.getElem?_map, List.getElem?_range (by omega), Option.map_some]
        have := c j ci[j] (List.getElem?_eq_getElem (by omega))
        rw [← Nat.add_assoc, this, List.getElem?_eq_getElem (by omega)]
        rfl
      · rw [List.getElem?_eq_none (by simp; omega), List.getElem?_eq_none (by omega)]
    rw [this]; exact q

theorem run_first {w : World} {sz m cap : Nat} {ad : Option Addr} {b off : Nat} {news : List Value} (hl : news.length = m * sz) (ha : m = 0 ∨ ad = some ⟨b, off, none⟩) (hc : CellsAt w b off news) :
    (Builtin.firstCells sz m (.slice ad m cap)).run P w = .ok news.toArray w := by
  rcases ha with h | rfl
  · subst h
    have : news = [] := by rw [Nat.zero_mul] at hl; exact List.length_eq_zero_iff.1 hl
    subst this
    cases ad with
    | none => exact run_firstCells_none ..
    | some a => exact run_firstCells_some w sz 0 a 0 cap [] hl (fun j v hv => by simp at hv)
  · exact run_firstCells_some w sz m _ m cap news hl (fun j v hv => by rw [Addr.add_mid]; exact hc j v hv)

theorem append_types {T U T' : TypeId} {r : List TypeId} {Ts : Array TypeId} {E E' : TypeId} {rt : TypeId} {args : Array Value} {w : World} (h : Ts.toList = T :: U :: r) (hT : P.underlying T = some (.slice E)) (hU : P.underlying U = some (.slice E')) :
    (Builtin.append_ Ts rt args).run P w = (Builtin.append_ #[T, T] rt args).run P w := by
  have h0 : Ts[0]? = some T := by rw [← Array.getElem?_toList, h]; rfl
  have h1 : Ts[1]? = some U := by rw [← Array.getElem?_toList, h]; rfl
  have h2 : (#[T, T] : Array TypeId)[0]? = some T := rfl
  have h3 : (#[T, T] : Array TypeId)[1]? = some T := rfl
  unfold Builtin.append_
  rw [h0, h1, h2, h3]
  cases args[0]? with
  | none => rfl
  | some s =>
    cases args[1]? with
    | none => rfl
    | some x =>
      simp only [Sem.run_bind, run_underlying hT, Result.andThen_ok]
      cases s <;> first | rfl | skip
      simp only [Sem.run_bind, run_underlying hT, run_underlying hU, Result.andThen_ok, Sem.run_pure]

/-- what 'append' brings about -/
theorem run_append' (tok : TyOK P ty) {T U rt : TypeId} {r : List TypeId} {Ts : Array TypeId} {e : Ty} (h : Ts.toList = T :: U :: r) (hT : ty.ty T = some (.sl e)) (hU : ty.ty U = some (.sl e)) {w : World}
    {ad : Option Addr} {n cap b off : Nat} {olds : List Value} (hn : n ≤ cap) (had : cap = 0 ∨ ad = some ⟨b, off, none⟩) (hol : olds.length = n * e.size) (ho : CellsAt w b off olds)
    {ax : Option Addr} {m cax bx offx : Nat} {news : List Value} (hax : m = 0 ∨ ax = some ⟨bx, offx, none⟩) (hnl : news.length = m * e.size) (hnw : CellsAt w bx offx news) (h1 : ∀ c ∈ news, c.oneCell' = true)
    (hw : ∀ k, k < cap * e.size → (∃ v, w.cell? ⟨b, off + k, none⟩ = some v) ∧ w.frozen? ⟨b, off + k, none⟩ = false) (hm : n + m ≤ most) :
    (n + m ≤ cap ∧ (Builtin.append_ Ts rt #[.slice ad n cap, .slice ax m cax]).run P w = .ok (.slice ad (n + m) cap) (w.setCells b (off + n * e.size) news)) ∨
    (∃ cap' E zs, n + m ≤ cap' ∧ cap < n + m ∧ zs.length = (cap' - (n + m)) * e.size ∧
      (Builtin.append_ Ts rt #[.slice ad n cap, .slice ax m cax]).run P w = .ok (.slice (some ⟨w.heap.size, 0, none⟩) (n + m) cap') (w.drew.alloc (.cells (olds ++ news ++ zs).toArray E))) := by
  obtain ⟨E, hu, hE⟩ : ∃ E, P.underlying T = some (.slice E) ∧ ty.ty E = some e := by have := tok.desc T _ hT; simpa only [FitD] using this
  obtain ⟨E', hu', hE'⟩ : ∃ E, P.underlying U = some (.slice E) ∧ ty.ty E = some e := by have := tok.desc U _ hU; simpa only [FitD] using this
  obtain ⟨i, i1, i2, i3, i4⟩ := tok.info E e hE
  rw [append_types (T' := T) h hu hu']
  have hmv : most = 4294967296 := rfl
  have hz : (toVal e (zeroCells e)).cells = (zeroCells e).toArray := toVal_cells (zeroCells_len e) (RepC_one (RepC_zero w non e))
  by_cases hc : n + m ≤ cap
  · refine .inl ⟨hc, ?_⟩
    have hf := run_first (P := P) (w := w) (cap := cax) hnl hax hnw
    rcases had with h0 | rfl
    · have hn0 : n = 0 := by omega
      have hm0 : m = 0 := by omega
      have : news = [] := by rw [hm0, Nat.zero_mul] at hnl; exact List.length_eq_zero_iff.1 hnl
      subst this hn0 hm0 h0
      cases ad with
      | none => simp [Builtin.append_, run_underlying hu, run_sizeOf' tok hE, Builtin.lenOf, hf, World.setCells]
      | some a => simp [Builtin.append_, run_underlying hu, run_sizeOf' tok hE, Builtin.lenOf, hf, World.setCells, storeCells]
    · have hle : n * e.size + m * e.size ≤ cap * e.size := by rw [← Nat.add_mul]; exact Nat.mul_le_mul_right _ hc
      have hst := run_storeCells_cells (P := P) b (off + n * e.size) news 0 w (fun j hj => by
        obtain ⟨v, hv⟩ := (hw (n * e.size + j) (by omega)).1
        rw [← Nat.add_assoc] at hv
        simp [hv]) (fun j hj => by
        have := (hw (n * e.size + j) (by omega)).2
        rw [← Nat.add_assoc] at this
        simpa using this) h1
      simp only [Nat.add_zero] at hst
      simp [Builtin.append_, run_underlying hu, run_sizeOf' tok hE, Builtin.lenOf, hf, hc, Addr.add_mid, hst]
  · refine .inr ?_
    have hm0 : m ≠ 0 := by omega
    have hax := hax.resolve_left hm0
    subst hax
    have hbytes : (n + m) * i.bytes ≤ 140737488355328 := by
      have : (n + m) * i.bytes ≤ 4294967296 * 32768 := Nat.mul_le_mul (by rw [← hmv]; exact hm) i4
      omega
    have hzl : ∀ k, ((Builtin.zeroCells (toVal e (zeroCells e)).cells k).toList).length = k * e.size := by
      intro k; rw [Array.length_toList, size_zeroCells, hz]; simp [zeroCells_len]
    have hge := grownCap_ge w (n + m) cap E
    cases ad with
    | none =>
      have hcap : cap = 0 := by rcases had with h | h; exact h; cases h
      subst hcap
      have hn0 : n = 0 := by omega
      subst hn0
      have : olds = [] := by rw [Nat.zero_mul] at hol; exact List.length_eq_zero_iff.1 hol
      subst this
      have := run_append_nil (P := P) w T rt E i _ hu i1 i3 ⟨bx, offx, none⟩ m cax news (by rw [i2]; exact hnl) (fun j v hv => by rw [Addr.add_mid]; exact hnw j v hv) (by omega) (by rw [hmv] at hm; omega) (by rw [Nat.zero_add] at hbytes; omega)
      refine ⟨grownCap w m 0 E, E, (Builtin.zeroCells (toVal e (zeroCells e)).cells (grownCap w m 0 E - m)).toList, by simpa using hge, by omega, by rw [hzl]; simp, ?_⟩
      rw [Nat.zero_add, this]
      congr 3
      apply Array.ext'
      simp
    | some ad =>
      have hbo : n = 0 ∨ ad = ⟨b, off, none⟩ := by
        rcases had with h | h
        · left; omega
        · right; simpa using h
      have := run_append_grow (P := P) w T rt E i _ hu i1 i3 ad n cap olds (by rw [i2]; exact hol) (fun j v hv => by
        rcases hbo with h0 | rfl
        · subst h0; rw [Nat.zero_mul] at hol; rw [List.length_eq_zero_iff.1 hol] at hv; simp at hv
        · rw [Addr.add_mid]; exact ho j v hv) ⟨bx, offx, none⟩ m cax news (by rw [i2]; exact hnl) (fun j v hv => by rw [Addr.add_mid]; exact hnw j v hv) (by omega) (by rw [hmv] at hm; omega) (growslice_fits (by omega) hbytes)
      refine ⟨grownCap w (n + m) cap E, E, (Builtin.zeroCells (toVal e (zeroCells e)).cells (grownCap w (n + m) cap E - (n + m))).toList, hge, by omega, by rw [hzl], ?_⟩
      rw [this]
      congr 3
      apply Array.ext'
      simp
end Go.VM
/- Soundness, part 19: 'append', the whole step. -/
namespace Go.VM
variable {P : Program} {ty : Types}

/-- elements in a row, each with what it owns -/
def Els (w : World) (I : CS) (e : Ty) (sh : Sh) (l : List e.den) (b off : Nat) (fs : Nat → CS) : Prop :=
  (∀ i y, l[i]? = some y → ∃ ci, ci.length = e.size ∧ CellsAt w b (off + i * e.size) ci ∧ RepO w I e sh y ci (fs i)) ∧ ∀ i j, i ≠ j → Disj (fs i) (fs j)

theorem Els.le {w : World} {I : CS} {e : Ty} {sh sh' : Sh} {l : List e.den} {b off : Nat} {fs : Nat → CS} (h : Els w I e sh l b off fs) (hl : l = [] ∨ Sh.le e sh' sh = true) :
    ∃ z fs', (∀ b o, z b o → ∃ i, fs i b o) ∧ (∀ i, Sub (fs' i) (fs i)) ∧ (∀ i, Disj z (fs' i)) ∧ Els w (un I z) e sh' l b off fs' := by
  rcases hl with rfl | hl
  · exact ⟨non, fun _ => non, fun _ _ h => h.elim, fun _ _ _ h => h.elim, fun _ _ _ h => h.elim, fun i y hy => by simp at hy, fun _ _ _ _ _ h => h.elim⟩
  · have hx : ∀ i, ∃ z f' : CS, (Sub z (fs i) ∧ Sub f' (fs i) ∧ Disj z f') ∧ ∀ y, l[i]? = some y → ∃ ci, ci.length = e.size ∧ CellsAt w b (off + i * e.size) ci ∧ RepO w (un I z) e sh' y ci f' := by
      intro i
      cases hy : l[i]? with
      | none => exact ⟨non, non, ⟨fun _ _ h => h.elim, fun _ _ h => h.elim, fun _ _ h => h.elim⟩, fun y hy' => by cases hy'⟩
      | some y =>
        obtain ⟨ci, l1, c, r⟩ := h.1 i y hy
        obtain ⟨z, f', s1, s2, d, r'⟩ := RepO_le hl r
        exact ⟨z, f', ⟨s1, s2, d⟩, fun y' hy' => by cases hy'; exact ⟨ci, l1, c, r'⟩⟩
    obtain ⟨zs, fs', hx⟩ := skolem2 hx
    refine ⟨fun b o => ∃ i, zs i b o, fs', fun b o ⟨i, hi⟩ => ⟨i, (hx i).1.1 b o hi⟩, fun i => (hx i).1.2.1, fun i b o ⟨j, hj⟩ x => ?_, fun i y hy => ?_, fun i j hij => (h.2 i j hij).sub (hx i).1.2.1 (hx j).1.2.1⟩
    · by_cases e : j = i
      · subst e; exact (hx j).1.2.2 b o hj x
      · exact h.2 j i e b o ((hx j).1.1 b o hj) ((hx i).1.2.1 b o x)
    · obtain ⟨ci, l1, c, r⟩ := (hx i).2 y hy
      exact ⟨ci, l1, c, RepO_sub (fun b o x => x.elim .inl fun x => .inr ⟨i, x⟩) (.refl _) r⟩

theorem Els.row {w : World} {I : CS} {e : Ty} {sh : Sh} {l : List e.den} {b off : Nat} {fs : Nat → CS} (h : Els w I e sh l b off fs) :
    ∃ cs : List Value, cs.length = l.length * e.size ∧ CellsAt w b off cs ∧ (∀ c ∈ cs, c.oneCell' = true) ∧ ∀ i y, l[i]? = some y → RepO w I e sh y ((cs.drop (i * e.size)).take e.size) (fs i) := by
  obtain ⟨cs, h1, h2, h3⟩ := gather (n := l.length) (Q := fun i ci => ∀ y, l[i]? = some y → RepO w I e sh y ci (fs i)) (fun i hi => by
    obtain ⟨ci, l1, c, r⟩ := h.1 i _ (List.getElem?_eq_getElem hi)
    exact ⟨ci, l1, c, fun y hy => by rw [List.getElem?_eq_getElem hi] at hy; cases hy; exact r⟩)
  refine ⟨cs, h1, h2, fun c hc => ?_, fun i y hy => h3 i (List.getElem?_eq_some_iff.1 hy).1 y hy⟩
  obtain ⟨j, hj, rfl⟩ := List.mem_iff_getElem.1 hc
  rw [h1] at hj
  have hz : 0 < e.size := by
    rcases Nat.eq_zero_or_pos e.size with h | h
    · rw [h, Nat.mul_zero] at hj; omega
    · exact h
  have g1 : j / e.size < l.length := by rw [Nat.div_lt_iff_lt_mul hz]; exact hj
  have g2 : j % e.size < e.size := Nat.mod_lt _ hz
  have g3 : j / e.size * e.size + j % e.size = j := by rw [Nat.mul_comm]; exact Nat.div_add_mod j e.size
  refine RepO_one (h3 _ g1 _ (List.getElem?_eq_getElem g1)) _ (List.mem_iff_getElem?.2 ⟨j % e.size, ?_⟩)
  rw [List.getElem?_take_of_lt g2, List.getElem?_drop, g3, List.getElem?_eq_getElem]

theorem isNils_take {s : St} {o : Operand} {e : Ty} {r : Sh × List e.den × St} (hq : (s.takeSl o e).Is r) (hn : isNils (s.ev o) = true) : r.2.1 = [] := by
  simp only [St.takeSl, Q.is_bind', atQ_is] at hq
  obtain ⟨x, hx, hq⟩ := hq
  rw [hx] at hn
  cases x <;> simp [isNils] at hn
  simp only [Q.is_ret] at hq
  subst hq; rfl
theorem isNils_see {s : St} {o : Operand} {e : Ty} {r : List e.den} (hq : (s.seeSl o e).Is r) (hn : isNils (s.ev o) = true) : r = [] := by
  simp only [St.seeSl, Q.is_bind', atQ_is] at hq
  obtain ⟨x, hx, hq⟩ := hq
  rw [hx] at hn
  cases x <;> simp [isNils] at hn
  simp only [Q.is_ret] at hq
  subst hq; rfl

theorem op_append (tok : TyOK P ty) {o : Oper} {a : Act} {w : World} {I : CS} {s s' : St} {hr : Nat → HR} {d : Nat} {T U : TypeId} {Ts : List TypeId} {e : Ty} {x y : Operand} {c : Call} (R : StRel w I s hr a.tmps) (hd : d < s.n)
    (ho : o.op = .call c) (hc : c.callee = .builtin .append) (ha : c.args.toList = [x, y]) (hT : c.argTypes.toList = T :: U :: Ts) (tT : ty.ty T = some (.sl e)) (tU : ty.ty U = some (.sl e)) (hq : (appendQ s d e x y).Is s') : Done P o a w I s hr d s' := by
  have hargs : c.args = #[x, y] := by cases h : c.args; rw [h] at ha; simp at ha; rw [ha]
  simp only [appendQ, Q.is_bind', Q.is_must, Q.is_req, Q.is_pure, decide_eq_true_eq] at hq
  obtain ⟨dx, hdx, ⟨g, m, s1⟩, hg, ⟨q, l, s2⟩, hq2, _, hle1, _, hle2, _, hmost, hs'⟩ := hq
  -- the second operand
  have X : ∃ hr1 f1 ax cax bx offx fx, StRel w I s1 hr1 a.tmps ∧ Trans w I s.home? hr w I s1.home? hr1 ∧ s1.n = s.n ∧ Sub f1 (tot s.home? hr) ∧ Disj f1 (tot s1.home? hr1) ∧ Disj f1 I ∧ (∀ b o, f1 b o → b < w.heap.size) ∧
      a.eval y = .slice ax m.length cax ∧ (m.length = 0 ∨ ax = some ⟨bx, offx, none⟩) ∧ Els w I e g m bx offx fx ∧ (∀ i, Sub (fx i) f1) ∧ (isNils (s.ev y) = true → m = []) := by
    cases dx with
    | true =>
      simp only [cond_true] at hg
      obtain ⟨hr1, f1, R1, T1, air, sf⟩ := takeSl_sound R hg
      have rep := air.rep
      simp only [RepO] at rep
      obtain ⟨ax, len, cax, e1, e2, e3, bx, offx, fx, e4, g1, g2, g3, g4⟩ := rep
      simp only [List.cons.injEq, and_true] at e1
      subst e2
      exact ⟨hr1, f1, ax, cax, bx, offx, fx, R1, T1, takeSl_n hg, sf, air.tot, air.imm, air.old, e1, e4.imp (fun h => by omega) id, ⟨g2, g4⟩, fun i => (g3 i).1, isNils_take hg⟩
    | false =>
      simp only [cond_false, Q.is_bind', Q.is_pure] at hg
      obtain ⟨m', hm, hx⟩ := hg
      simp only [Prod.mk.injEq] at hx
      obtain ⟨rfl, rfl, rfl⟩ := hx
      obtain ⟨ax, len, cax, bx, offx, e1, e2, e3, e4, g2⟩ := seeSl_sound R hm
      subst e2
      exact ⟨hr, non, ax, cax, bx, offx, fun _ => non, R, .refl .., rfl, fun _ _ h => h.elim, fun _ _ h => h.elim, fun _ _ h => h.elim, fun _ _ h => h.elim, e1, e4, ⟨fun i y hy => by
        obtain ⟨ci, l1, c1, r1⟩ := g2 i y hy
        exact ⟨ci, l1, c1, RepO_flat.2 r1⟩, fun _ _ _ _ _ h => h.elim⟩, fun _ _ _ h => h.elim, isNils_see hm⟩
  obtain ⟨hr1, f1, ax, cax, bx, offx, fx, R1, T1, n1, f1a, f1b, f1c, f1d, ey, eax, Ex, sx, nx⟩ := X
  -- the first operand
  obtain ⟨hr2, f2, R2, T2, air, sf2⟩ := takeSl_sound R1 hq2
  have hevx : a.eval x = a.eval x := rfl
  have rep := air.rep
  simp only [RepO] at rep
  obtain ⟨ad, len, cap, e1, e2, e3, b, off, fa, e4, g1, g2, g3, g4⟩ := rep
  simp only [List.cons.injEq, and_true] at e1
  simp only [cond_true] at g1 g3
  have e2 : len = l.length := e2
  subst e2
  have T12 := T1.trans T2
  have n2 : s2.n = s.n := (takeSl_n hq2).trans n1
  have f12 : Disj f1 f2 := fun b o x y => f1b b o x (sf2 b o y)
  have f1t : Disj f1 (tot s2.home? hr2) := fun b o x y => (T2.tot b o y).elim (f1b b o x) fun z => absurd (f1d b o x) (Nat.not_lt.2 z)
  -- the one shape of all elements
  generalize hsh : (bif isNils (s.ev x) then g else bif isNils (s.ev y) then q else bif eqSh q g then q else .flat : Sh) = sh at hle1 hle2 hs'
  have Ea : Els w I e q l b off fa := ⟨g2, g4⟩
  have nevx : isNils (s.ev x) = true → l = [] := by
    intro hn
    cases hev : s.ev x with
    | «at» v =>
      rw [hev] at hn
      cases v <;> simp [isNils] at hn
      have h0 := at_rel R hev
      have : a.eval x = .slice none 0 0 := h0
      rw [this] at e1
      simp only [Value.slice.injEq] at e1
      exact List.length_eq_zero_iff.1 e1.2.1.symm
    | _ => rw [hev] at hn; simp [isNils] at hn
  obtain ⟨za, fa', a1, a2, a3, Ea'⟩ := Ea.le (sh' := sh) (by
    cases hn : isNils (s.ev x) with
    | true => exact .inl (nevx hn)
    | false => rw [hn] at hle1; exact .inr hle1)
  obtain ⟨zx, fx', x1, x2, x3, Ex'⟩ := Ex.le (sh' := sh) (by
    cases hn : isNils (s.ev y) with
    | true => exact .inl (nx hn)
    | false => rw [hn] at hle2; exact .inr hle2)
  have za2 : Sub za f2 := fun b o h => by obtain ⟨i, hi⟩ := a1 b o h; exact (g3 i).1 b o hi
  have zx1 : Sub zx f1 := fun b o h => by obtain ⟨i, hi⟩ := x1 b o h; exact sx i b o hi
  have fa2 : ∀ i, Sub (fa' i) f2 := fun i => (a2 i).trans (g3 i).1
  have fx1 : ∀ i, Sub (fx' i) f1 := fun i => (x2 i).trans (sx i)
  -- what is frozen
  let z : CS := un za zx
  have zt : Sub z (un (tot s.home? hr) (new w)) := fun b o h => h.elim (fun h => T1.tot b o (sf2 b o (za2 b o h))) fun h => .inl (f1a b o (zx1 b o h))
  obtain ⟨R3, T3⟩ := freeze_air (z := z) R2 (fun b o h => h.elim (fun h => air.tot b o (za2 b o h)) fun h => f1t b o (zx1 b o h)) (fun b o h => h.elim (fun h => air.old b o (za2 b o h)) fun h => f1d b o (zx1 b o h)) T12 zt
  have Ea3 : Els w (un I z) e sh l b off fa' := ⟨fun i y hy => by obtain ⟨ci, l1, c1, r1⟩ := Ea'.1 i y hy; exact ⟨ci, l1, c1, RepO_sub (fun b o h => h.elim .inl fun h => .inr (.inl h)) (.refl _) r1⟩, Ea'.2⟩
  have Ex3 : Els w (un I z) e sh m bx offx fx' := ⟨fun i y hy => by obtain ⟨ci, l1, c1, r1⟩ := Ex'.1 i y hy; exact ⟨ci, l1, c1, RepO_sub (fun b o h => h.elim .inl fun h => .inr (.inr h)) (.refl _) r1⟩, Ex'.2⟩
  obtain ⟨olds, ol, oc, o1, orep⟩ := Ea3.row
  obtain ⟨news, nl, nc, no1, nrep⟩ := Ex3.row
  have hrun := run_append' (P := P) tok (rt := o.type) (cax := cax) hT tT tU e3.1 e4 ol oc eax nl nc no1 (fun k hk => ⟨(g1 k hk).1, (g1 k hk).2.1⟩) hmost
  have exec : ∀ {v : Value} {w' : World}, (Builtin.append_ c.argTypes o.type #[.slice ad l.length cap, .slice ax m.length cax]).run P w = .ok v w' → (execOp a.eval o).run P w = .ok (.value v) w' := by
    intro v w' h
    rw [← e1, ← ey] at h
    simp [execOp, ho, resolve, hc, hargs, invoke, builtin, h]
  have hd2 : d < s2.n := by omega
  -- all that the elements own
  let fs : Nat → CS := fun i => if i < l.length then fa' i else fx' (i - l.length)
  have fsE : ∀ i, (i < l.length ∧ fs i = fa' i) ∨ (¬ i < l.length ∧ fs i = fx' (i - l.length)) := fun i => by
    by_cases h : i < l.length
    · exact .inl ⟨h, if_pos h⟩
    · exact .inr ⟨h, if_neg h⟩
  have fsU : ∀ i, Sub (fs i) (un f1 f2) := fun i => by
    rcases fsE i with ⟨_, h⟩ | ⟨_, h⟩ <;> rw [h]
    · exact fun b o x => .inr (fa2 _ b o x)
    · exact fun b o x => .inl (fx1 _ b o x)
  have fsD : ∀ i j, i ≠ j → Disj (fs i) (fs j) := fun i j hij => by
    rcases fsE i with ⟨h1, h⟩ | ⟨h1, h⟩ <;> rcases fsE j with ⟨h2, h'⟩ | ⟨h2, h'⟩ <;> rw [h, h']
    · exact Ea3.2 i j hij
    · exact fun b o x y => f12 b o (fx1 _ b o y) (fa2 _ b o x)
    · exact fun b o x y => f12 b o (fx1 _ b o x) (fa2 _ b o y)
    · exact Ex3.2 _ _ (by omega)
  have fsz : ∀ i, Disj (fs i) z := fun i b o x y => by
    rcases fsE i with ⟨h1, h⟩ | ⟨h1, h⟩ <;> rw [h] at x
    · exact y.elim (fun y => a3 i b o y x) fun y => f12 b o (zx1 b o y) (fa2 _ b o x)
    · exact y.elim (fun y => f12 b o (fx1 _ b o x) (za2 b o y)) fun y => x3 _ b o y x
  have uT : ∀ b o, un f1 f2 b o → ¬ tot s2.home? hr2 b o := fun b o x y => x.elim (fun x => f1t b o x y) fun x => air.tot b o x y
  have uI : ∀ b o, un f1 f2 b o → ¬ I b o := fun b o x y => x.elim (fun x => f1c b o x y) fun x => air.imm b o x y
  have uO : ∀ b o, un f1 f2 b o → b < w.heap.size := fun b o x => x.elim (f1d b o) (air.old b o)
  have uS : Sub (un f1 f2) (un (tot s.home? hr) (new w)) := fun b o x => x.elim (fun x => .inl (f1a b o x)) fun x => T1.tot b o (sf2 b o x)
  have Iold : ∀ b o, un I z b o → b < w.heap.size := R3.1.old
  have elrep : ∀ i (y : e.den), (l ++ m)[i]? = some y → RepO w (un I z) e sh y (if i < l.length then (olds.drop (i * e.size)).take e.size else (news.drop ((i - l.length) * e.size)).take e.size) (fs i) := by
    intro i y hy
    rcases fsE i with ⟨h1, h⟩ | ⟨h1, h⟩ <;> rw [h]
    · rw [if_pos h1]; rw [List.getElem?_append_left h1] at hy; exact orep i y hy
    · rw [if_neg h1]; rw [List.getElem?_append_right (by omega)] at hy; exact nrep _ y hy
  have ellen : ∀ i, i < l.length + m.length → (if i < l.length then (olds.drop (i * e.size)).take e.size else (news.drop ((i - l.length) * e.size)).take e.size).length = e.size := by
    intro i hi
    split
    · have := Nat.mul_le_mul_right e.size (show i + 1 ≤ l.length by omega)
      rw [Nat.add_mul, Nat.one_mul] at this
      simp [ol]; omega
    · have := Nat.mul_le_mul_right e.size (show (i - l.length) + 1 ≤ m.length by omega)
      rw [Nat.add_mul, Nat.one_mul] at this
      simp [nl]; omega
  rcases hrun with ⟨hroom, hrun⟩ | ⟨cap', E, zs, hge, hgt, hzs, hrun⟩
  · -- there is room
    have hcells : ∀ j, j < news.length → (∃ v, w.cell? ⟨b, off + l.length * e.size + j, none⟩ = some v) ∧ w.frozen? ⟨b, off + l.length * e.size + j, none⟩ = false ∧ rng b off (cap * e.size) b (off + l.length * e.size + j) := by
      intro j hj
      have hle : l.length * e.size + m.length * e.size ≤ cap * e.size := by rw [← Nat.add_mul]; exact Nat.mul_le_mul_right _ hroom
      have := g1 (l.length * e.size + j) (by omega)
      rw [← Nat.add_assoc] at this
      exact ⟨this.1, this.2.1, rfl, by omega, by omega⟩
    have W := wrote_setCells (w := w) (b := b) (o := off + l.length * e.size) (cs := news) (fun j hj => ⟨(hcells j hj).1, (hcells j hj).2.1⟩)
    let fp : CS := fun b' o' => rng b off (cap * e.size) b' o' ∨ ∃ i, fs i b' o'
    have own2 : ∀ b' o', rng b off (cap * e.size) b' o' → f2 b' o' := by
      rintro b' o' ⟨rfl, h1, h2⟩
      have := (g1 (o' - off) (by omega)).2.2
      rwa [show off + (o' - off) = o' by omega] at this
    have ownfs : ∀ i b' o', fs i b' o' → ¬ rng b off (cap * e.size) b' o' := by
      rintro i b' o' h ⟨rfl, h1, h2⟩
      rcases fsE i with ⟨_, he⟩ | ⟨_, he⟩ <;> rw [he] at h
      · have := (g3 i).2 (o' - off) (by omega)
        rw [show off + (o' - off) = o' by omega] at this
        exact this (a2 i _ _ h)
      · exact f12 _ _ (fx1 _ _ _ h) (own2 _ _ ⟨rfl, h1, h2⟩)
    have ownz : ∀ b' o', z b' o' → ¬ rng b off (cap * e.size) b' o' := by
      rintro b' o' h ⟨rfl, h1, h2⟩
      rcases h with h | h
      · obtain ⟨i, hi⟩ := a1 _ _ h
        have := (g3 i).2 (o' - off) (by omega)
        rw [show off + (o' - off) = o' by omega] at this
        exact this hi
      · exact f12 _ _ (zx1 _ _ h) (own2 _ _ ⟨rfl, h1, h2⟩)
    have wrIn : ∀ b' o', rng b (off + l.length * e.size) news.length b' o' → rng b off (cap * e.size) b' o' := by
      rintro b' o' ⟨rfl, h1, h2⟩
      have := (hcells (o' - (off + l.length * e.size)) (by omega)).2.2
      rwa [show off + l.length * e.size + (o' - (off + l.length * e.size)) = o' by omega] at this
    have fpU : Sub fp (un f1 f2) := fun b o x => x.elim (fun x => .inr (own2 b o x)) fun ⟨i, x⟩ => fsU i b o x
    have F : Fr fp w (w.setCells b (off + l.length * e.size) news) := ⟨W.os, W.tape, W.output, Nat.le_of_eq W.size.symm, fun k hk hn => by
        by_cases ek : k = b
        · subst ek
          by_cases hz : news = []
          · exact W.block k (.inr hz)
          · have hl0 : 0 < news.length := by cases news <;> simp at hz ⊢
            exact absurd (.inl (hcells 0 hl0).2.2) (hn _)
        · exact W.block k (.inl ek), fun b' o' _ hn => W.same b' o' fun hx => hn (.inl (wrIn _ _ hx))⟩
    have keepI : Keep w (w.setCells b (off + l.length * e.size) news) (un I z) := fun b' o' x => W.same b' o' fun hx => by
      have hx := wrIn _ _ hx
      exact x.elim (fun x => uI b' o' (.inr (own2 _ _ hx)) x) fun x => ownz _ _ x hx
    have rel : HRel (w.setCells b (off + l.length * e.size) news) (un I z) ⟨.own sh, .sl e, l ++ m, false, false, true⟩ [.slice ad (l.length + m.length) cap] fp := by
      simp only [HRel, RepO]
      refine ⟨ad, l.length + m.length, cap, rfl, by simp, ⟨hroom, Nat.le_trans hmost (by simp [most, maxLen])⟩, b, off, fs, e4, ?_, ?_, ?_, fsD⟩
      · intro k hk
        simp only [cond_true] at hk
        have := g1 k hk
        refine ⟨?_, ?_, .inl ⟨rfl, by omega, by omega⟩⟩
        · by_cases hin : rng b (off + l.length * e.size) news.length b (off + k)
          · obtain ⟨j, hj, _, hj2⟩ := rng_iff.1 hin
            rw [hj2]
            exact ⟨_, W.cells j news[j] (List.getElem?_eq_getElem hj)⟩
          · rw [(W.same _ _ hin).1]; exact this.1
        · by_cases hin : rng b (off + l.length * e.size) news.length b (off + k)
          · obtain ⟨j, hj, _, hj2⟩ := rng_iff.1 hin
            rw [hj2, W.froz j hj]
            exact (hcells j hj).2.1
          · rw [(W.same _ _ hin).2.1]; exact this.2.1
      · intro i y hy
        have hi : i < l.length + m.length := by have := (List.getElem?_eq_some_iff.1 hy).1; simpa using this
        refine ⟨_, ellen i hi, ?_, RepO_keep (.refl _) keepI (fun b' o' x => W.same b' o' fun hx => ownfs i b' o' x (wrIn _ _ hx)) (.refl _) (elrep i y hy)⟩
        intro j v hv
        have hj : j < e.size := by have := (List.getElem?_eq_some_iff.1 hv).1; rwa [ellen i hi] at this
        split at hv
        · rename_i hil
          rw [List.getElem?_take_of_lt hj, List.getElem?_drop] at hv
          have := oc _ _ hv
          have hlt : i * e.size + j < l.length * e.size := by
            have := Nat.mul_le_mul_right e.size (show i + 1 ≤ l.length by omega)
            rw [Nat.add_mul, Nat.one_mul] at this; omega
          rw [Nat.add_assoc, (W.same _ _ (fun hx => by have := hx.2.1; omega)).1]
          exact this
        · rename_i hil
          rw [List.getElem?_take_of_lt hj, List.getElem?_drop] at hv
          have := W.cells _ _ hv
          have hmul : (i - l.length) * e.size + l.length * e.size = i * e.size := by rw [← Nat.add_mul]; congr 1; omega
          rw [show off + i * e.size + j = off + l.length * e.size + ((i - l.length) * e.size + j) by omega]
          exact this
      · exact fun i => ⟨fun b' o' x => .inr ⟨i, x⟩, fun k hk x => by simp only [cond_true] at hk; exact ownfs i _ _ x ⟨rfl, by omega, by omega⟩⟩
    subst hs'
    refine ⟨_, _, un I z, _, exec hrun, new_home' R3 F hd2 rel (f := fp) (fun b o x => .inl x) (fun b o x => Nat.lt_of_lt_of_le (uO b o (fpU b o x)) (Nat.le_of_eq W.size.symm)) (fun b o x y => uT b o (fpU b o x) y) ?_ rfl ev_own T3 (fpU.trans uS)⟩
    exact fun b o x y => y.elim (uI b o (fpU b o x)) fun y => x.elim (ownz b o y) fun ⟨i, x⟩ => fsz i b o x y
  · -- new memory
    have A : Alloc (olds ++ news ++ zs).toArray E w (w.drew.alloc (.cells (olds ++ news ++ zs).toArray E)) := ⟨rfl, rfl, rfl, rfl⟩
    have key := new_slice (w := w) (I := un I z) (e := e) (s := sh) (l := l ++ m) (cap := cap') A ((List.range (l.length + m.length)).map fun i => if i < l.length then (olds.drop (i * e.size)).take e.size else (news.drop ((i - l.length) * e.size)).take e.size) fs
      (by simp) ⟨by simpa using hge, by rw [List.length_append]; exact Nat.le_trans hmost (by simp [most, maxLen])⟩ (by
        simp only [List.size_toArray, List.length_append, ol, nl, hzs, ← Nat.add_mul]
        exact Nat.mul_le_mul_right _ (by omega)) (fun i ci hci => by
        have hi : i < l.length + m.length := by have := (List.getElem?_eq_some_iff.1 hci).1; simpa using this
        rw [List.getElem?_map, List.getElem?_range hi] at hci
        simp only [Option.map_some, Option.some.injEq] at hci
        subst hci
        refine ⟨ellen i hi, fun j v hv => ?_⟩
        have hj : j < e.size := by have := (List.getElem?_eq_some_iff.1 hv).1; rwa [ellen i hi] at this
        rw [List.getElem?_toArray, List.append_assoc]
        split at hv
        · rename_i hil
          rw [List.getElem?_take_of_lt hj, List.getElem?_drop] at hv
          have hlt : i * e.size + j < l.length * e.size := by
            have := Nat.mul_le_mul_right e.size (show i + 1 ≤ l.length by omega)
            rw [Nat.add_mul, Nat.one_mul] at this; omega
          rw [List.getElem?_append_left (by omega)]
          exact hv
        · rename_i hil
          rw [List.getElem?_take_of_lt hj, List.getElem?_drop] at hv
          have hmul : (i - l.length) * e.size + l.length * e.size = i * e.size := by rw [← Nat.add_mul]; congr 1; omega
          have hlt := (List.getElem?_eq_some_iff.1 hv).1
          rw [List.getElem?_append_right (by omega), List.getElem?_append_left (by omega), ← hv]
          congr 1; omega) (fun i y ci hy hci => by
        have hi : i < l.length + m.length := by have := (List.getElem?_eq_some_iff.1 hci).1; simpa using this
        rw [List.getElem?_map, List.getElem?_range hi] at hci
        simp only [Option.map_some, Option.some.injEq] at hci
        subst hci
        exact elrep i y hy) Iold (fun i b o x => uO b o (fsU i b o x)) fsD
    have hll : (l ++ m).length = l.length + m.length := by simp
    rw [hll] at key
    subst hs'
    refine ⟨_, _, un I z, _, exec hrun, new_home' R3 (A.fr _) hd2 (H := ⟨.own sh, .sl e, l ++ m, false, false, true⟩) key (f := fun b o => ∃ i, fs i b o) (fun b o x => x.elim (fun x => .inr (by show w.heap.size ≤ b; omega)) fun x => .inl x) (fun b o x => ?_) (fun b o ⟨i, x⟩ y => uT b o (fsU i b o x) y) ?_ rfl ev_own T3 (fun b o ⟨i, x⟩ => uS b o (fsU i b o x))⟩
    · rw [A.size]
      exact x.elim (fun x => by omega) fun ⟨i, x⟩ => Nat.lt_succ_of_lt (uO b o (fsU i b o x))
    · exact fun b o ⟨i, x⟩ y => y.elim (uI b o (fsU i b o x)) fun y => fsz i b o x y
end Go.VM
/- Soundness, part 20: 'store'. -/
namespace Go.VM
variable {P : Program} {ty : Types}

/-- homes as they were, but for their shapes -/
def SameH (s s' : St) : Prop := ∀ g H', s'.home? g = some H' → ∃ H, s.home? g = some H ∧ H'.bx = H.bx ∧ (⟨H'.t, H'.x⟩ : TV) = ⟨H.t, H.x⟩
theorem SameH.refl (s : St) : SameH s s := fun g H' h => ⟨H', h, rfl, rfl⟩
theorem SameH.trans {s s1 s2 : St} (h : SameH s s1) (k : SameH s1 s2) : SameH s s2 := fun g H' e => by
  obtain ⟨H1, e1, b1, x1⟩ := k g H' e
  obtain ⟨H, e0, b0, x0⟩ := h g H1 e1
  exact ⟨H, e0, b1.trans b0, x1.trans x0⟩
theorem take_same {s : St} {h : Nat} {p : Path} {r : Home × St} (hq : (s.take h p).Is r) : SameH s r.2 := by
  simp only [St.take, Q.is_bind', Q.is_must, homeQ_is] at hq
  obtain ⟨H, hH, q, hl, _, _, hq⟩ := hq
  cases hc : (p.isEmpty && !H.bx) with
  | true =>
    simp only [hc, cond_true, Q.is_bind', Q.is_must, Q.is_pure] at hq
    obtain ⟨_, _, rfl⟩ := hq
    intro g H' hg
    simp only [home?_setH] at hg
    split at hg
    · cases hg
    · exact ⟨H', hg, rfl, rfl⟩
  | false =>
    simp only [hc, cond_false, Q.is_bind', Q.is_pure] at hq
    obtain ⟨_, _, rfl⟩ := hq
    intro g H' hg
    simp only [home?_mapA, home?_setH] at hg
    split at hg
    · rename_i e; subst e; cases hg; exact ⟨H, hH, rfl, rfl⟩
    · exact ⟨H', hg, rfl, rfl⟩
theorem freeze_same {s : St} {h : Nat} {p : Path} {r : TV × St} (hq : (s.freeze h p).Is r) : SameH s r.2 := by
  simp only [St.freeze, Q.is_bind', Q.is_must, Q.is_of, Q.is_pure, homeQ_is] at hq
  obtain ⟨H, hH, _, _, _, _, _, _, _, _, rfl⟩ := hq
  intro g H' hg
  simp only [home?_setH] at hg
  split at hg
  · rename_i e; subst e; cases hg; exact ⟨H, hH, rfl, rfl⟩
  · exact ⟨H', hg, rfl, rfl⟩
theorem giveQ_same {s : St} {o : Operand} {t : Ty} {flat : Bool} {r : Sh × t.den × St} (hq : (s.giveQ o t flat).Is r) : SameH s r.2.2 := by
  simp only [St.giveQ, Q.is_bind', atQ_is] at hq
  obtain ⟨x, hx, hq⟩ := hq
  cases x <;> simp only [Q.is_fail] at hq
  · simp only [Q.is_bind', Q.is_of, Q.is_pure] at hq
    obtain ⟨_, _, rfl⟩ := hq; exact .refl s
  · simp only [Q.is_bind', Q.is_of, Q.is_pure] at hq
    obtain ⟨_, _, rfl⟩ := hq; exact .refl s
  · cases flat
    · simp only [cond_false, Q.is_bind', Q.is_of, Q.is_pure] at hq
      obtain ⟨_, ht, _, _, rfl⟩ := hq; exact take_same ht
    · simp only [cond_true, Q.is_bind', Q.is_of, Q.is_pure] at hq
      obtain ⟨_, ht, _, _, rfl⟩ := hq; exact freeze_same ht
  · cases flat
    · simp only [cond_false, Q.is_bind', Q.is_of, Q.is_pure] at hq
      obtain ⟨_, ht, _, _, _, _, rfl⟩ := hq; exact take_same ht
    · simp only [cond_true, Q.is_bind', Q.is_of, Q.is_pure] at hq
      obtain ⟨_, ht, _, _, _, _, rfl⟩ := hq; exact freeze_same ht

theorem take_whole {s : St} {h : Nat} {p : Path} {r : Home × St} (hq : (s.take h p).Is r) : r.1.sh.whole = true := by
  simp only [St.take, Q.is_bind', Q.is_must, homeQ_is] at hq
  obtain ⟨H, hH, q, hl, _, hw, hq⟩ := hq
  cases hc : (p.isEmpty && !H.bx) with
  | true =>
    simp only [hc, cond_true, Q.is_bind', Q.is_must, Q.is_pure] at hq
    obtain ⟨_, _, rfl⟩ := hq
    exact hw
  | false =>
    simp only [hc, cond_false, Q.is_bind', Q.is_pure] at hq
    obtain ⟨_, _, rfl⟩ := hq
    exact hw
/-- a step without a result -/
def DoneS (P : Program) (o : Oper) (a : Act) (w : World) (I : CS) (s : St) (hr : Nat → HR) (s' : St) : Prop :=
  ∃ w' I' hr', (execOp a.eval o).run P w = .ok .skip w' ∧ StRel w' I' s' hr' a.tmps ∧ Trans w I s.home? hr w' I' s'.home? hr'

theorem loc_deref {w : World} {I S : CS} {H : Home} {cs : List Value} {fp : CS} {p : Path} {b o : Nat} {csp : List Value} (h : HRel w I H cs fp) (ok : okP H.t H.x p) (l : LocH w S H cs p (some (b, o), csp)) : derefH H p = true := by
  unfold derefH
  cases hb : H.bx with
  | true => rfl
  | false =>
    cases hd : deref H.t p with
    | true => rfl
    | false =>
      unfold HRel at h
      unfold LocH at l
      rw [hb] at h l
      obtain ⟨d, g1, _⟩ := loc_inline ok hd (RepO_len h) (LocIn_locP l)
      cases g1

/-- what has been in the air is laid at a place, and the place's cells are written -/
theorem lay_at {w : World} {I : CS} {s s' : St} {hr : Nat → HR} {tmps : Array Value} {h : Nat} {p : Path} {n : Sh} {t : Ty} {y : t.den} {csn : List Value} {fn S : CS} {b o : Nat} {csp : List Value} {H : Home}
    (R : StRel w I s hr tmps) (hq : (s.putP h p n ⟨t, y⟩).Is s') (hH : s.home? h = some H) (ok : okP H.t H.x p) (hloc : LocH w S H (hr h).cs p (some (b, o), csp)) (air : Air w I (tot s.home? hr) t n y csn fn)
    {w0 : World} {I0 : CS} {hm0 : Hm} {hr0 : Nat → HR} (T0 : Trans w0 I0 hm0 hr0 w I s.home? hr) (sf : Sub fn (un (tot hm0 hr0) (new w0))) :
    (∀ j, j < csn.length → (∃ v, w.cell? ⟨b, o + j, none⟩ = some v) ∧ w.frozen? ⟨b, o + j, none⟩ = false) ∧
    ∃ hr', StRel (w.setCells b o csn) I s' hr' tmps ∧ Trans w0 I0 hm0 hr0 (w.setCells b o csn) I s'.home? hr' := by
  have hq0 := hq
  simp only [St.putP, Q.is_bind', homeQ_is, Q.is_pure] at hq0
  obtain ⟨H0, hH0, q, hp, _⟩ := hq0
  rw [hH] at hH0; cases hH0
  obtain ⟨⟨sh, tx⟩, hl, ht⟩ := put_type hp
  obtain ⟨t', x⟩ := tx
  simp only at ht
  subst ht
  obtain ⟨g1, g2⟩ := put_store R hq hH ok hl hloc (loc_deref (R.1.home h H hH) ok hloc) air.rep air.tot air.imm air.old
  obtain ⟨hr', R', F, st, io⟩ := g2 _ (wrote_setCells g1)
  refine ⟨g1, hr', R', ⟨T0.fr.trans F T0.tot, T0.sub, T0.imm, ?_, ?_⟩⟩
  · exact fun b o x => (st b o x).elim (T0.tot b o) (sf b o)
  · intro g H' e i
    obtain ⟨G, h1, h2, h3, h4, h5⟩ := io g H' e i
    obtain ⟨G0, k1, k2, k3, k4, k5⟩ := T0.io g G h1 h2
    exact ⟨G0, k1, k2, k3.trans h3, k4.trans h4, h5.trans k5⟩

theorem samePl_is {p q : Path} {u : Unit} (h : (samePl p q).Is u) : p = q := by
  induction p generalizing q with
  | nil => cases q with
    | nil => rfl
    | cons st q => simp only [samePl, Q.is_fail] at h
  | cons st p ih => cases q with
    | nil => cases st <;> simp only [samePl, Q.is_fail] at h
    | cons st' q =>
      cases st <;> cases st' <;> simp only [samePl, Q.is_fail] at h
      · rw [ih h]
      · rw [ih h]
      · simp only [Q.is_bind', Q.is_req] at h
        obtain ⟨_, h1, h2⟩ := h
        rw [ih h2, beq_iff.1 h1]

theorem RepO_cut {w : World} {I : CS} {e : Ty} {sh : Sh} {l : List e.den} {a : Option Addr} {len cap lo hi : Nat} {f : CS} (h : RepO w I (.sl e) sh l [.slice a len cap] f) (hw : sh.whole = true) (h1 : lo ≤ hi) (h2 : hi ≤ len) {ad : Option Addr}
    (had : cap = lo ∨ ad = a.map (·.add (lo * e.size))) : RepO w I (.sl e) sh ((l.drop lo).take (hi - lo) : List e.den) [.slice ad (hi - lo) (cap - lo)] f := by
  cases sh with
  | flat => rw [RepO_flat] at h ⊢; exact RepC_cut h h1 h2 had
  | hole => cases hw
  | own u => simp only [RepO] at h ⊢; exact h.cut h1 h2 had
  | len u => simp only [RepO] at h ⊢; exact h.cut h1 h2 had
  | pr _ _ => simp only [RepO] at h
  | mapO => simp only [RepO] at h
  | ownX _ _ _ => cases hw

theorem op_store (tok : TyOK P ty) {o : Oper} {a : Act} {w : World} {I : CS} {s s' : St} {hr : Nat → HR} {T : TypeId} {x y : Operand} (R : StRel w I s hr a.tmps) (ho : o.op = .store T x y) (hq : (storeQ ty s T x y).Is s') : DoneS P o a w I s hr s' := by
  simp only [storeQ, Q.is_bind', atQ_is] at hq
  obtain ⟨v, hv, hq⟩ := hq
  have hr0 := at_rel R hv
  cases v <;> simp only [Q.is_fail] at hq
  rename_i h p
  simp only [Q.is_bind', look_is, isT_is] at hq
  obtain ⟨⟨sh0, tv⟩, ⟨H, hH, hl⟩, _, hT, hq⟩ := hq
  obtain ⟨ok, b, off, csp, l1, ea⟩ := hr0 H hH
  simp only at hT
  -- what is known of the place, in a later state
  have later : ∀ {s1 : St} {hr1 : Nat → HR} {H1 : Home}, SameH s s1 → (∀ g, (hr1 g).cs = (hr g).cs) → s1.home? h = some H1 → okP H1.t H1.x p ∧ LocH w (un (hr h).fp I) H1 (hr1 h).cs p (some (b, off), csp) := by
    intro s1 hr1 H1 sm hcs hH1
    obtain ⟨H2, e2, b2, x2⟩ := sm h H1 hH1
    rw [hH] at e2; cases e2
    rw [hcs h]
    obtain ⟨sh1, t1, x1, bx1, io1, d1⟩ := H1
    obtain ⟨sh, t, x, bx, io, d⟩ := H
    cases x2
    exact ⟨ok, LocH_same (H := ⟨sh, _, _, bx, io, d⟩) b2 rfl l1⟩
  have fin : ∀ {s1 : St} {I1 : CS} {hr1 : Nat → HR} {n : Sh} {yv : tv.1.den} {csn : List Value} {fn : CS}, StRel w I1 s1 hr1 a.tmps → (s1.putP h p n ⟨tv.1, yv⟩).Is s' → SameH s s1 → (∀ g, (hr1 g).cs = (hr g).cs) → Air w I1 (tot s1.home? hr1) tv.1 n yv csn fn →
      Trans w I s.home? hr w I1 s1.home? hr1 → Sub fn (un (tot s.home? hr) (new w)) → a.eval y = toVal tv.1 csn → DoneS P o a w I s hr s' := by
    intro s1 I1 hr1 n yv csn fn R1 hp sm hcs air T1 sf ey
    have hp0 := hp
    simp only [St.putP, Q.is_bind', homeQ_is, Q.is_pure] at hp0
    obtain ⟨H1, hH1, _⟩ := hp0
    obtain ⟨ok1, loc1⟩ := later sm hcs hH1
    obtain ⟨g1, hr', R', T'⟩ := lay_at R1 hp hH1 ok1 loc1 air T1 sf
    refine ⟨_, I1, hr', ?_, R', T'⟩
    simp only [execOp, ho, ea, ey, Sem.run_bind, run_store' tok hT (RepO_len air.rep) (RepO_one air.rep) g1, Result.andThen_ok, Sem.run_pure]
  split at hq
  · -- a part of the slice that lies there
    rename_i p' lo hi hsh
    simp only [Q.is_bind', Q.is_of] at hq
    obtain ⟨_, hsame, ⟨Hp, s1⟩, ht, yv, hy, hp⟩ := hq
    have := samePl_is hsame
    subst this
    have hevy : s.ev y = .at (.rg h p lo hi) := by
      cases hy : s.ev y with
      | «at» v =>
        rw [hy] at hsh
        cases v <;> simp only [reduceCtorEq] at hsh
        rename_i h' q lo' hi'
        cases hb : Nat.beq h h' with
        | true =>
          rw [hb] at hsh
          simp only [cond_true, Option.some.injEq, Prod.mk.injEq] at hsh
          obtain ⟨rfl, rfl, rfl⟩ := hsh
          rw [beq_iff.1 hb]
        | false => rw [hb] at hsh; simp at hsh
      | _ => rw [hy] at hsh; simp at hsh
    obtain ⟨H', hH', k⟩ := take_air R ht
    rw [hH] at hH'; cases hH'
    obtain ⟨ok2, hlo, loc2, ad, len, cap, e, l2, ty2, hhi, hcap, ad', rr, had⟩ := at_rel R hevy H hH
    cases LocH_det l1 l2
    obtain ⟨hr1, f, R1, T1, ty3, air, sf, hcs⟩ := k ok _ _ _ l1
    rw [ty2] at ty3
    have hw : Hp.sh.whole = true := take_whole ht
    obtain ⟨sh1, t1, x1, bx1, io1, d1⟩ := Hp
    simp only at ty3 air hy hp hw
    cases ty3
    simp only [cutOf, Option.some.injEq] at hy
    subst hy
    have htv : tv.1 = .sl e := by have := look_type hl; rw [ty2] at this; simpa using this.symm
    obtain ⟨t0, x0⟩ := tv
    simp only at htv hT fin
    subst htv
    refine fin R1 hp (take_same ht) hcs.1 ⟨RepO_cut air.rep hw hlo hhi had, air.tot, air.imm, air.old⟩ T1 (fun b o x => .inl (sf b o x)) ?_
    rw [toVal_one rfl]; exact rr
  · simp only [Q.is_bind'] at hq
    obtain ⟨⟨n, yv, s1⟩, hg, s2, hs2, hp⟩ := hq
    obtain ⟨I1, hr1, csn, fn, R1, T1, ey, air, sf, hcs⟩ := giveQ_sound R hg
    cases hc : (Path.hasIdx p && n.isFlat && !sh0.isFlat) with
    | false =>
      simp only [hc, cond_false, Q.is_ret] at hs2
      subst hs2
      exact fin R1 hp (giveQ_same hg) hcs air T1 (fun b o x => .inl (sf b o x)) ey
    | true =>
      simp only [hc, cond_true, Q.is_bind', Q.is_pure] at hs2
      obtain ⟨⟨fv, s3⟩, hf, rfl⟩ := hs2
      obtain ⟨_, _, I2, hr2, R2, T2, hcs2, _, _, _⟩ := freeze_sound R1 hf
      exact fin R2 hp ((giveQ_same hg).trans (freeze_same hf)) (fun g => (hcs2.1 g).trans (hcs g)) (air.step R1.1.old T2 R1.1.dI) (T1.trans T2) (fun b o x => .inl (sf b o x)) ey
end Go.VM
/- Soundness, part 21: 'build'. -/
namespace Go.VM
variable {P : Program} {ty : Types}

theorem fill_fold : ∀ (vs : List Value) (k off : Nat) (cells : Array Value), off + k + vs.length ≤ cells.size →
    ((vs.zipIdx k).foldl (fun cs (c, j) => cs.setIfInBounds (off + j) c) cells).toList = cells.toList.take (off + k) ++ vs ++ cells.toList.drop (off + k + vs.length) := by
  intro vs
  induction vs with
  | nil => intro k off cells h; simp
  | cons v r ih =>
    intro k off cells h
    simp only [List.length_cons] at h
    rw [List.zipIdx_cons, List.foldl_cons, ih (k + 1) off (cells.setIfInBounds (off + k) v) (by simp; omega)]
    simp only [Array.toList_setIfInBounds]
    have hlen : cells.toList.length = cells.size := Array.length_toList
    have hlt : off + k < cells.toList.length := by omega
    rw [← Nat.add_assoc, List.take_set, List.drop_set_of_lt (show off + k < off + k + 1 + r.length by omega)]
    rw [List.take_succ_eq_append_getElem hlt]
    have : (cells.toList.take (off + k) ++ [cells.toList[off + k]]).set (off + k) v = cells.toList.take (off + k) ++ [v] := by
      have hm : (cells.toList.take (off + k)).length = off + k := by rw [List.length_take]; omega
      rw [List.set_append_right _ _ (by rw [hm]; exact Nat.le_refl _), hm, Nat.sub_self]
      rfl
    rw [this]
    simp [Nat.add_assoc, Nat.add_comm 1]

theorem spl_field : ∀ {f : Nat} {t : Ty} {x : t.den} {v : TV} {cs n : List Value}, getP t x (fieldPath f) = some v → cs.length = t.size → n.length = v.1.size →
    deref t (fieldPath f) = false ∧ okP t x (fieldPath f) ∧ offP t f + v.1.size ≤ t.size ∧ spl t cs (fieldPath f) n = cs.take (offP t f) ++ n ++ cs.drop (offP t f + n.length) := by
  intro f
  induction f with
  | zero =>
    intro t x v cs n hg hl hn
    cases t <;> simp only [fieldPath, getP] at hg <;> try cases hg
    rename_i a b
    have h1 : deref a [] = false := by cases a <;> rfl
    refine ⟨by simp only [fieldPath, deref, h1], by simp only [fieldPath, okP], by simp [offP, Ty.size], ?_⟩
    simp only [fieldPath, spl, spl_nil, offP, List.take_zero, List.nil_append, Nat.zero_add, hn]
  | succ f ih =>
    intro t x v cs n hg hl hn
    cases t <;> simp only [fieldPath, getP] at hg <;> try cases hg
    rename_i a b
    simp only [Ty.size] at hl
    obtain ⟨h1, h2, h3, h4⟩ := ih (cs := cs.drop a.size) hg (by simp; omega) hn
    refine ⟨by simp only [fieldPath, deref, h1], by simp only [fieldPath, okP]; exact h2, by simp only [offP, Ty.size]; omega, ?_⟩
    simp only [fieldPath, spl, h4, offP]
    rw [List.drop_drop, ← List.append_assoc, ← List.append_assoc, List.take_add, Nat.add_assoc]

/-- where a part lies -/
def offT : Ty → Nat → Nat
  | .arr _ e, i => i * e.size
  | t, i => offP t i
theorem getP_nil {t : Ty} {x : t.den} {v : TV} (h : getP t x [] = some v) : v = ⟨t, x⟩ := by cases t <;> simp only [getP, Option.some.injEq] at h <;> exact h.symm
theorem spl_part {i : Nat} {t : Ty} {x : t.den} {v : TV} {cs n : List Value} (hg : getP t x (partPath t i) = some v) (hl : cs.length = t.size) (hn : n.length = v.1.size) :
    deref t (partPath t i) = false ∧ okP t x (partPath t i) ∧ offT t i + v.1.size ≤ t.size ∧ spl t cs (partPath t i) n = cs.take (offT t i) ++ n ++ cs.drop (offT t i + n.length) := by
  cases t with
  | arr m e =>
    simp only [partPath] at hg ⊢
    cases hb : Nat.blt i m with
    | false => rw [hb] at hg; simp only [cond_false, getP] at hg; cases hg
    | true =>
      rw [hb] at hg
      simp only [cond_true, getP] at hg ⊢
      have := Option.some.inj hg
      subst this
      have hi : i < m := by simpa [Nat.blt_eq] using hb
      have := Nat.mul_le_mul_right e.size (show i + 1 ≤ m by omega)
      rw [Nat.add_mul, Nat.one_mul] at this
      refine ⟨by cases e <;> rfl, by simp only [okP]; exact ⟨hi, trivial⟩, by simp only [offT, Ty.size]; exact this, ?_⟩
      simp only [spl, spl_nil, offT, hn]
  | _ => exact spl_field hg hl hn

theorem giveAll_n : ∀ {parts : List (Nat × Operand)} {s : St} {t : Ty} {x : t.den} {sh : Sh} {path : Nat → Path} {r : Sh × t.den × St}, (s.giveAll sh t x path parts).Is r → r.2.2.n = s.n := by
  intro parts
  induction parts with
  | nil => intro s t x sh path r hq; simp only [St.giveAll, Q.is_ret] at hq; subst hq; rfl
  | cons po rest ih =>
    intro s t x sh path r hq
    obtain ⟨i, o⟩ := po
    simp only [St.giveAll, Q.is_bind'] at hq
    obtain ⟨_, _, g, hg, _, _, hq⟩ := hq
    exact (ih hq).trans (giveQ_n hg)

theorem giveAll_sound {w : World} {a : Act} {t : Ty} {place : Nat → Option (Nat × Nat)} (hpl : ∀ i (x : t.den) v, getP t x (partPath t i) = some v → place i = some (offT t i, v.1.size))
    {w0 : World} {I0 : CS} {hm0 : Hm} {hr0 : Nat → HR} :
    ∀ {parts : List (Nat × Operand)} {I : CS} {s s' : St} {hr : Nat → HR} {x x' : t.den} {sh sh' : Sh} {cs : List Value} {f : CS}, StRel w I s hr a.tmps → Trans w0 I0 hm0 hr0 w I s.home? hr → Air w I (tot s.home? hr) t sh x cs f → Sub f (un (tot hm0 hr0) (new w0)) →
    (s.giveAll sh t x (partPath t) parts).Is (sh', x', s') →
    ∃ I' hr' cs' f', StRel w I' s' hr' a.tmps ∧ Trans w0 I0 hm0 hr0 w I' s'.home? hr' ∧ Air w I' (tot s'.home? hr') t sh' x' cs' f' ∧ Sub f' (un (tot hm0 hr0) (new w0)) ∧
      Instr.fill place cs.toArray (parts.map fun p => (p.1, a.eval p.2)) = some cs'.toArray := by
  intro parts
  induction parts with
  | nil =>
    intro I s s' hr x x' sh sh' cs f R T air sf hq
    simp only [St.giveAll, Q.is_ret, Prod.mk.injEq] at hq
    obtain ⟨rfl, rfl, rfl⟩ := hq
    exact ⟨I, hr, cs, f, R, T, air, sf, rfl⟩
  | cons po rest ih =>
    intro I s s' hr x x' sh sh' cs f R T air sf hq
    obtain ⟨i, o⟩ := po
    simp only [St.giveAll, Q.is_bind', Q.is_of] at hq
    obtain ⟨v0, hv0, ⟨n, y, s1⟩, hg, q, hp, hq⟩ := hq
    obtain ⟨I1, hr1, csn, fn, R1, T1, ey, airn, sfn, _⟩ := giveQ_sound R hg
    have air1 := air.step R.1.old T1 R.1.dI
    obtain ⟨r, hl, hrt⟩ := put_type hp
    simp only at hrt
    have hcl := RepO_len air1.rep
    have hnl := RepO_len airn.rep
    obtain ⟨d1, d2, d3, d4⟩ := spl_part hv0 hcl hnl
    obtain ⟨loc', csp, fpp, fr, k1, k2, k3, k4, k5, k6, k7⟩ := focus (loc := none) air1.rep d2 hl (putQ_wr hp)
    obtain ⟨rs, rt, rx⟩ := r
    simp only at hrt
    subst hrt
    have hfn : Disj fn f := fun b o x y => air.tot b o y (sfn b o x)
    obtain ⟨fp', m1, m2⟩ := k7 w I1 n y csn fn q hp (Keep.refl _ _) (.refl _) (hnl.trans (RepO_len k2).symm) airn.rep (fun b o x y => hfn b o x (k4 b o y)) (fun _ => Keep.refl _ _) (fun hd => by rw [d1] at hd; cases hd)
    have sfp : Sub fp' (un f fn) := fun b o x => (m2 b o x).imp (k4 b o) id
    have air2 : Air w I1 (tot s1.home? hr1) t q.1 q.2 (spl t cs (partPath t i) csn) fp' := ⟨m1, fun b o x y => (sfp b o x).elim (fun x => air1.tot b o x y) fun x => airn.tot b o x y, fun b o x y => (sfp b o x).elim (fun x => air1.imm b o x y) fun x => airn.imm b o x y, fun b o x => (sfp b o x).elim (air1.old b o) (airn.old b o)⟩
    obtain ⟨I', hr', cs', f', R', T', air', sf', hf⟩ := ih R1 (T.trans T1) air2 (fun b o x => (sfp b o x).elim (sf b o) fun x => T.tot b o (sfn b o x)) hq
    refine ⟨I', hr', cs', f', R', T', air', sf', ?_⟩
    rw [← hf]
    have hpl' := hpl i x v0 hv0
    have hc : (a.eval o).cells = csn.toArray := by rw [ey]; exact toVal_cells hnl (RepO_one airn.rep)
    simp only [List.map_cons, Instr.fill, hpl', hc, List.size_toArray]
    rw [if_neg (by simp; omega)]
    congr 1
    apply Array.ext'
    rw [← Array.foldl_toList, Array.toList_zipIdx]
    have := fill_fold csn 0 (offT t i) cs.toArray (by simp; omega)
    simp only [Nat.add_zero] at this
    simp only [this, d4]

theorem partPath_pair (a b : Ty) (i : Nat) : partPath (.pair a b) i = fieldPath i := rfl
theorem partPath_unit (i : Nat) : partPath .unit i = fieldPath i := rfl
theorem lay_n (s : St) (d : Nat) (sh : Sh) (t : Ty) (x : t.den) : (s.lay d sh t x).n = s.n := by cases sh <;> rfl

/-- a value goes into a slot -/
theorem lay_sound {w : World} {I : CS} {s : St} {hr : Nat → HR} {tmps : Array Value} {d : Nat} {sh : Sh} {t : Ty} {x : t.den} {cs : List Value} {f : CS} (R : StRel w I s hr tmps) (hd : d < s.n) (air : Air w I (tot s.home? hr) t sh x cs f)
    {w0 : World} {I0 : CS} {hm0 : Hm} {hr0 : Nat → HR} (T : Trans w0 I0 hm0 hr0 w I s.home? hr) (sf : Sub f (un (tot hm0 hr0) (new w0))) :
    ∃ hr', StRel w I (s.lay d sh t x) hr' (tmps.setIfInBounds d (toVal t cs)) ∧ Trans w0 I0 hm0 hr0 w I (s.lay d sh t x).home? hr' := by
  have gen : ∃ hr', StRel w I ((s.newH d ⟨sh, t, x, false, false, true⟩).set d (.at (.rf d []))) hr' (tmps.setIfInBounds d (toVal t cs)) ∧ Trans w0 I0 hm0 hr0 w I ((s.newH d ⟨sh, t, x, false, false, true⟩).set d (.at (.rf d []))).home? hr' :=
    ⟨_, new_home' R (Fr.refl f w) hd (H := ⟨sh, t, x, false, false, true⟩) air.rep (fun b o x => .inl x) air.old air.tot air.imm rfl
      (ev_val (fp := f) (H := ⟨sh, t, x, false, false, true⟩) (by rw [home?_newH, if_pos rfl]) rfl (by rw [upd_same])) T sf⟩
  cases sh with
  | flat => exact ⟨hr, set_slot R (Nat.lt_of_lt_of_le hd R.2.2) ⟨cs, rfl, RepO_flat.1 air.rep⟩, T⟩
  | _ => exact gen

theorem op_build (tok : TyOK P ty) {o : Oper} {a : Act} {w : World} {I : CS} {s s' : St} {hr : Nat → HR} {d T0 : Nat} {T : TypeId} {parts : Array (Nat × Operand)} (R : StRel w I s hr a.tmps) (hd : d < s.n) (ho : o.op = .build T parts) (hq : (op1Q ty s d T0 (.build T parts)).Is s') : Done P o a w I s hr d s' := by
  simp only [op1Q, Q.is_bind', Q.is_of, Q.is_pure] at hq
  obtain ⟨t, hT, _, hag, ⟨sh, x, s1⟩, hg, rfl⟩ := hq
  rw [Q.is_must] at hag
  have air0 : Air w I (tot s.home? hr) t t.deep t.zero (zeroCells t) non := ⟨RepO_deep w I non t, fun _ _ h => h.elim, fun _ _ h => h.elim, fun _ _ h => h.elim⟩
  obtain ⟨i, i1, i2, i3, i4⟩ := tok.info T t hT
  have hdsc := tok.desc T t hT
  have hmap : (parts.map fun (i, x) => (i, a.eval x)).toList = parts.toList.map fun p => (p.1, a.eval p.2) := by rw [Array.toList_map]
  have fin : isAggT t = true → ∀ place : Nat → Option (Nat × Nat), (∀ i (x : t.den) v, getP t x (partPath t i) = some v → place i = some (offT t i, v.1.size)) →
      (∀ cs' : List Value, Instr.fill place (toVal t (zeroCells t)).cells (parts.map fun (i, x) => (i, a.eval x)).toList = some cs'.toArray → (Instr.build T (parts.map fun (i, x) => (i, a.eval x))).run P w = .ok (.agg cs'.toArray) w) → Done P o a w I s hr d (s1.lay d sh t x) := by
    intro hagg place hpl hrun
    obtain ⟨I', hr', cs', f', R', T', air', sf', hf⟩ := giveAll_sound hpl R (.refl w I s.home? hr) air0 (fun _ _ h => h.elim) hg
    have hn : s1.n = s.n := giveAll_n hg
    obtain ⟨hr2, R2, T2⟩ := lay_sound R' (show d < s1.n by omega) air' T' sf'
    refine ⟨toVal t cs', w, I', hr2, ?_, R2, T2⟩
    have hz := toVal_cells (RepO_len air0.rep) (RepO_one air0.rep)
    rw [← hz, ← hmap] at hf
    simp only [execOp, ho, Sem.run_bind, hrun cs' hf, Result.andThen_ok, Sem.run_pure, toVal_agg hagg]
  have hb : ∀ {cells : Array Value}, P.built T (parts.map fun (i, x) => (i, a.eval x)).toList = some cells → (Instr.build T (parts.map fun (i, x) => (i, a.eval x))).run P w = .ok (.agg cells) w := fun h => run_build w T _ _ h
  have hplaces : ∀ (fs : List Field) (off : Nat) (t : Ty), FitF ty fs off t → ∃ ps, fs.mapM (fun f => (P.info? f.type).map fun i => (f.offset, i.size)) = some ps ∧ ∀ i (x : t.den) v, getP t x (fieldPath i) = some v → ps[i]? = some (off + offP t i, v.1.size) := by
    intro fs
    induction fs with
    | nil => intro off t h; cases t <;> simp only [FitF] at h; exact ⟨[], rfl, fun i x v hg => by cases i <;> simp only [fieldPath, getP] at hg <;> cases hg⟩
    | cons F r ih =>
      intro off t h
      cases t <;> simp only [FitF] at h
      rename_i ta tb
      obtain ⟨ps, h1, h2⟩ := ih _ _ h.2.2
      obtain ⟨j, j1, j2, _⟩ := tok.info F.type ta h.2.1
      refine ⟨(F.offset, j.size) :: ps, by simp [List.mapM_cons, j1, h1], fun i x v hg => ?_⟩
      cases i with
      | zero =>
        simp only [fieldPath, getP] at hg
        have := Option.some.inj hg
        subst this
        simp [offP, h.1, j2]
      | succ i =>
        simp only [fieldPath, getP] at hg
        have := h2 i _ _ hg
        simp [this, offP]; omega
  have struct : (∃ a b, t = .pair a b) ∨ t = .unit → Done P o a w I s hr d (s1.lay d sh t x) := by
    intro ht
    have hagg : isAggT t = true := by rcases ht with ⟨_, _, rfl⟩ | rfl <;> rfl
    have hpp : ∀ i, partPath t i = fieldPath i := by rcases ht with ⟨_, _, rfl⟩ | rfl <;> intro i <;> rfl
    have hoff : ∀ i, offT t i = offP t i := by rcases ht with ⟨_, _, rfl⟩ | rfl <;> intro i <;> rfl
    obtain ⟨fs, hu, hfit⟩ : ∃ fs, P.underlying T = some (.struct fs) ∧ FitF ty fs.toList 0 t := by rcases ht with ⟨_, _, rfl⟩ | rfl <;> simpa only [FitD] using hdsc
    obtain ⟨ps, h1, h2⟩ := hplaces _ _ _ hfit
    refine fin hagg (fun i => ps.toArray[i]?) (fun i x v hv => ?_) (fun cs' hf => hb ?_)
    · rw [hpp] at hv
      have := h2 i x v hv
      rw [hoff]
      simpa using this
    · simp only [Program.built, i1, hu, i3, h1]
      exact hf
  cases t with
  | pair ta tb => exact struct (.inl ⟨_, _, rfl⟩)
  | unit => exact struct (.inr rfl)
  | arr n e =>
    obtain ⟨E, hu, hE⟩ : ∃ E, P.underlying T = some (.array n E) ∧ ty.ty E = some e := by simpa only [FitD] using hdsc
    obtain ⟨j, j1, j2, _⟩ := tok.info E e hE
    refine fin rfl (fun k => some (k * j.size, j.size)) (fun k x v hv => ?_) (fun cs' hf => hb ?_)
    · simp only [partPath] at hv
      cases hbk : Nat.blt k n with
      | false => rw [hbk] at hv; simp only [cond_false, getP] at hv; cases hv
      | true =>
        rw [hbk] at hv
        simp only [cond_true, getP] at hv
        have := Option.some.inj hv
        subst this
        simp [offT, j2]
    · simp only [Program.built, i1, hu, i3, j1]
      exact hf
  | _ => cases hag
end Go.VM
/- Soundness, part 22: 'buildSlice'. -/
namespace Go.VM
variable {P : Program} {ty : Types}

theorem run_buildSlice' (tok : TyOK P ty) {T E : TypeId} {e : Ty} {n : Nat} {parts : Array (Nat × Value)} {cells : Array Value} {w : World} (hu : P.underlying T = some (.slice E)) (hE : ty.ty E = some e) (hs : n * e.size ≤ 65536)
    (h : Instr.fill (fun i => some (i * e.size, e.size)) (List.replicate n (zeroCells e)).flatten.toArray parts.toList = some cells) :
    (Instr.buildSlice T n parts).run P w = .ok (.slice (some ⟨w.heap.size, 0, none⟩) n n) (w.alloc (.cells cells E)) := by
  have hz : (toVal e (zeroCells e)).cells = (zeroCells e).toArray := toVal_cells (zeroCells_len e) (RepC_one (RepC_zero w non e))
  have hs' : ¬ 16777216 < n * e.size := by omega
  have hr : ∀ f g : Nat → Value, Array.map f (Array.range 0) = Array.map g (Array.range 0) := fun f g => Array.ext (by simp) (fun i h => by simp at h)
  have key : (Array.range (n * e.size)).map (fun k => (zeroCells e).toArray[k % (zeroCells e).toArray.size]!) = (List.replicate n (zeroCells e)).flatten.toArray := by
    apply Array.ext'
    have := range_zero (z := zeroCells e) (n := n)
    rw [zeroCells_len] at this
    exact this
  unfold Instr.buildSlice
  simp only [Sem.run_bind, run_underlying hu, run_sizeOf' tok hE, Result.andThen_ok]
  by_cases h0 : n * e.size = 0
  · have : (Array.range (n * e.size)).map (fun k => (#[] : Array Value)[k % (#[] : Array Value).size]!) = (List.replicate n (zeroCells e)).flatten.toArray := by
      rw [← key, h0]; exact hr _ _
    simp [h0] at this
    simp [h0, this, h, newRow]
  · simp [hs', h0, run_zeroValue' tok hE, hz]
    simp at key
    simp [key, h, newRow]

/-- a zero value has every shape that any value of its type has -/
theorem RepO_zero {w : World} {I : CS} (fp : CS) : ∀ {t : Ty} {sh : Sh} {x : t.den} {cs : List Value} {f : CS}, sh.noMap = true → RepO w I t sh x cs f → RepO w I t sh t.zero (zeroCells t) fp := by
  intro t
  have hole : ∀ {t : Ty}, RepO w I t .hole t.zero (zeroCells t) fp := fun {t} => RepO_hole.2 ⟨zeroCells_len t, RepC_one (RepC_zero w I t)⟩
  induction t generalizing fp with
  | pair a b iha ihb =>
    intro sh x cs f hm h
    cases sh with
    | flat => exact RepO_flat.2 (RepC_zero w I _)
    | hole => exact RepO_hole.2 ⟨zeroCells_len _, RepC_one (RepC_zero w I _)⟩
    | pr s u =>
      simp only [Sh.noMap, Bool.and_eq_true] at hm
      simp only [RepO] at h ⊢
      obtain ⟨c1, c2, f1, f2, _, h1, h2, _⟩ := h
      exact ⟨_, _, non, non, rfl, iha non (fun {t} => RepO_hole.2 ⟨zeroCells_len t, RepC_one (RepC_zero w I t)⟩) hm.1 h1, ihb non (fun {t} => RepO_hole.2 ⟨zeroCells_len t, RepC_one (RepC_zero w I t)⟩) hm.2 h2, fun _ _ h => h.elim, fun _ _ h => h.elim, fun _ _ h => h.elim⟩
    | _ => simp only [RepO] at h
  | sl e ih =>
    intro sh x cs f hm h
    cases sh with
    | flat => exact RepO_flat.2 (RepC_zero w I _)
    | hole => exact hole
    | pr s u => simp only [RepO] at h
    | own _ => simp only [RepO]; exact SlO_nil ..
    | len _ => simp only [RepO]; exact SlO_nil ..
    | ownX _ _ _ => simp only [RepO]; exact SlO_nil ..
    | mapO => cases hm
  | _ =>
    intro sh x cs f hm h
    cases sh with
    | flat => exact RepO_flat.2 (RepC_zero w I _)
    | hole => exact hole
    | mapO => cases hm
    | _ => simp only [RepO] at h

theorem giveEls_n : ∀ {parts : List (Nat × Operand)} {s : St} {e : Ty} {flat : Bool} {sh : Option Sh} {l : List e.den} {r : Option Sh × List e.den × St}, (s.giveEls e flat sh l parts).Is r → r.2.2.n = s.n := by
  intro parts
  induction parts with
  | nil => intro s e flat sh l r hq; simp only [St.giveEls, Q.is_ret] at hq; subst hq; rfl
  | cons po rest ih =>
    intro s e flat sh l r hq
    obtain ⟨i, o⟩ := po
    simp only [St.giveEls, Q.is_bind'] at hq
    obtain ⟨g, hg, hq⟩ := hq
    have : ∃ r', (g.2.2.giveEls e flat (some g.1) (l.set i g.2.1) rest).Is r' ∧ r' = r := by
      cases sh with
      | none => simp only [Q.is_bind'] at hq; obtain ⟨_, _, _, _, hq⟩ := hq; exact ⟨r, hq, rfl⟩
      | some u => simp only [Q.is_bind'] at hq; obtain ⟨_, _, _, _, hq⟩ := hq; exact ⟨r, hq, rfl⟩
    obtain ⟨r', h1, rfl⟩ := this
    exact (ih h1).trans (giveQ_n hg)

/-- the i-th element's cells -/
def cut (cs : List Value) (sz i : Nat) : List Value := (cs.drop (i * sz)).take sz
structure EInv (w : World) (I : CS) (T : CS) (e : Ty) (n : Nat) (sh : Option Sh) (l : List e.den) (cs : List Value) (fs : Nat → CS) : Prop where
  len : l.length = n
  clen : cs.length = n * e.size
  rep : ∀ i y, l[i]? = some y → RepO w I e (sh.getD e.deep) y (cut cs e.size i) (fs i)
  zero : sh = none → ∀ i y, l[i]? = some y → y = e.zero ∧ cut cs e.size i = zeroCells e
  disj : ∀ i j, i ≠ j → Disj (fs i) (fs j)
  tot : ∀ i, Disj (fs i) T
  imm : ∀ i, Disj (fs i) I
  old : ∀ i b o, fs i b o → b < w.heap.size

theorem cut_len {cs : List Value} {sz n i : Nat} (h : cs.length = n * sz) (hi : i < n) : (cut cs sz i).length = sz := by
  have := Nat.mul_le_mul_right sz (show i + 1 ≤ n by omega)
  rw [Nat.add_mul, Nat.one_mul] at this
  simp [cut, h]; omega
theorem cut_get {cs : List Value} {sz i j : Nat} (hj : j < sz) : (cut cs sz i)[j]? = cs[i * sz + j]? := by
  rw [cut, List.getElem?_take_of_lt hj, List.getElem?_drop]
/-- cells are laid over the i-th element -/
def lay (cs : List Value) (sz i : Nat) (v : List Value) : List Value := cs.take (i * sz) ++ v ++ cs.drop (i * sz + v.length)
theorem lay_len {cs v : List Value} {sz n i : Nat} (h : cs.length = n * sz) (hi : i < n) (hv : v.length = sz) : (lay cs sz i v).length = n * sz := by
  have := Nat.mul_le_mul_right sz (show i + 1 ≤ n by omega)
  rw [Nat.add_mul, Nat.one_mul] at this
  simp only [lay, List.length_append, List.length_take, List.length_drop, h, hv]
  omega
theorem lay_get {cs v : List Value} {sz n i k : Nat} (h : cs.length = n * sz) (hi : i < n) (hv : v.length = sz) : (lay cs sz i v)[k]? = if i * sz ≤ k ∧ k < i * sz + sz then v[k - i * sz]? else cs[k]? := by
  have := Nat.mul_le_mul_right sz (show i + 1 ≤ n by omega)
  rw [Nat.add_mul, Nat.one_mul] at this
  have hl : (cs.take (i * sz)).length = i * sz := by rw [List.length_take, h]; omega
  unfold lay
  split
  · rename_i hk
    rw [List.getElem?_append_left (by rw [List.length_append, hl, hv]; omega), List.getElem?_append_right (by omega), hl]
  · rename_i hk
    by_cases hk2 : k < i * sz
    · rw [List.getElem?_append_left (by rw [List.length_append, hl, hv]; omega), List.getElem?_append_left (by omega), List.getElem?_take_of_lt hk2]
    · rw [List.getElem?_append_right (by rw [List.length_append, hl, hv]; omega), List.getElem?_drop, List.length_append, hl, hv]
      congr 1
      omega
theorem cut_lay_same {cs v : List Value} {sz n i : Nat} (h : cs.length = n * sz) (hi : i < n) (hv : v.length = sz) : cut (lay cs sz i v) sz i = v := by
  apply List.ext_getElem?
  intro j
  by_cases hj : j < sz
  · rw [cut_get hj, lay_get h hi hv, if_pos (by omega)]; congr 1; omega
  · rw [List.getElem?_eq_none (by rw [cut_len (lay_len h hi hv) hi]; omega), List.getElem?_eq_none (by omega)]
theorem cut_lay_ne {cs v : List Value} {sz n i k : Nat} (h : cs.length = n * sz) (hi : i < n) (hk : k < n) (hv : v.length = sz) (hne : i ≠ k) : cut (lay cs sz i v) sz k = cut cs sz k := by
  apply List.ext_getElem?
  intro j
  by_cases hj : j < sz
  · rw [cut_get hj, cut_get hj, lay_get h hi hv, if_neg]
    intro ⟨h1, h2⟩
    rcases Nat.lt_or_gt_of_ne hne with h3 | h3
    · have := Nat.mul_le_mul_right sz (show i + 1 ≤ k by omega)
      rw [Nat.add_mul, Nat.one_mul] at this
      omega
    · have := Nat.mul_le_mul_right sz (show k + 1 ≤ i by omega)
      rw [Nat.add_mul, Nat.one_mul] at this
      omega
  · rw [List.getElem?_eq_none (by rw [cut_len (lay_len h hi hv) hk]; omega), List.getElem?_eq_none (by rw [cut_len h hk]; omega)]

theorem giveEls_sound {w : World} {a : Act} {e : Ty} {flat : Bool} {n : Nat} {w0 : World} {I0 : CS} {hm0 : Hm} {hr0 : Nat → HR} :
    ∀ {parts : List (Nat × Operand)} {I : CS} {s s' : St} {hr : Nat → HR} {l l' : List e.den} {sh sh' : Option Sh} {cs : List Value} {fs : Nat → CS}, StRel w I s hr a.tmps → Trans w0 I0 hm0 hr0 w I s.home? hr → EInv w I (tot s.home? hr) e n sh l cs fs → (∀ i, Sub (fs i) (un (tot hm0 hr0) (new w0))) →
    (s.giveEls e flat sh l parts).Is (sh', l', s') →
    ∃ I' hr' cs' fs', StRel w I' s' hr' a.tmps ∧ Trans w0 I0 hm0 hr0 w I' s'.home? hr' ∧ EInv w I' (tot s'.home? hr') e n sh' l' cs' fs' ∧ (∀ i, Sub (fs' i) (un (tot hm0 hr0) (new w0))) ∧
      Instr.fill (fun i => some (i * e.size, e.size)) cs.toArray (parts.map fun p => (p.1, a.eval p.2)) = some cs'.toArray := by
  intro parts
  induction parts with
  | nil =>
    intro I s s' hr l l' sh sh' cs fs R T inv sf hq
    simp only [St.giveEls, Q.is_ret, Prod.mk.injEq] at hq
    obtain ⟨rfl, rfl, rfl⟩ := hq
    exact ⟨I, hr, cs, fs, R, T, inv, sf, rfl⟩
  | cons po rest ih =>
    intro I s s' hr l l' sh sh' cs fs R T inv sf hq
    obtain ⟨i, o⟩ := po
    simp only [St.giveEls, Q.is_bind'] at hq
    obtain ⟨⟨u, y, s1⟩, hg, hq⟩ := hq
    have hq : ((sh = none ∧ u.noMap = true) ∨ sh = some u) ∧ i < l.length ∧ (s1.giveEls e flat (some u) (l.set i y) rest).Is (sh', l', s') := by
      cases sh with
      | none =>
        simp only [Q.is_bind', Q.is_must, decide_eq_true_eq] at hq
        obtain ⟨_, h0, _, h1, h2⟩ := hq
        exact ⟨.inl ⟨rfl, h0⟩, h1, h2⟩
      | some v =>
        simp only [Q.is_bind', Q.is_must, decide_eq_true_eq] at hq
        obtain ⟨_, h0, _, h1, h2⟩ := hq
        exact ⟨.inr (by rw [eqSh_eq h0]), h1, h2⟩
    obtain ⟨hsh, hi, hq⟩ := hq
    obtain ⟨I1, hr1, csn, fn, R1, T1, ey, air, sfn, _⟩ := giveQ_sound R hg
    have hin : i < n := by rw [← inv.len]; exact hi
    have hnl := RepO_len air.rep
    have kI : Keep w w I := Keep.refl _ _
    have imm1 : ∀ k, Disj (fs k) I1 := fun k b o x y => (T1.imm b o y).elim (inv.imm k b o x) fun z => z.elim (inv.tot k b o x) fun z => absurd (inv.old k b o x) (Nat.not_lt.2 z)
    have tot1 : ∀ k, Disj (fs k) (tot s1.home? hr1) := fun k b o x y => (T1.tot b o y).elim (inv.tot k b o x) fun z => absurd (inv.old k b o x) (Nat.not_lt.2 z)
    let fs' : Nat → CS := fun k => if k = i then fn else if sh = none then non else fs k
    have fsE : ∀ k b o, fs' k b o → (k = i ∧ fn b o) ∨ (k ≠ i ∧ fs k b o) := by
      intro k b o x
      simp only [fs'] at x
      split at x
      · exact .inl ⟨by assumption, x⟩
      · split at x
        · exact x.elim
        · exact .inr ⟨by assumption, x⟩
    have inv' : EInv w I1 (tot s1.home? hr1) e n (some u) (l.set i y) (lay cs e.size i csn) fs' := by
      refine ⟨by rw [List.length_set]; exact inv.len, lay_len inv.clen hin hnl, ?_, fun h => (by cases h), ?_, ?_, ?_, ?_⟩
      · intro k z hz
        have hk : k < n := by have := (List.getElem?_eq_some_iff.1 hz).1; rwa [List.length_set, inv.len] at this
        rw [List.getElem?_set] at hz
        by_cases e1 : i = k
        · subst e1
          rw [if_pos rfl, if_pos hi] at hz
          cases hz
          rw [cut_lay_same inv.clen hin hnl]
          simp only [fs', if_pos rfl]
          exact air.rep
        · rw [if_neg e1] at hz
          rw [cut_lay_ne inv.clen hin hk hnl e1]
          simp only [fs', if_neg (Ne.symm e1)]
          rcases hsh with ⟨hn, hnm⟩ | hs
          · obtain ⟨z1, z2⟩ := inv.zero hn k z hz
            rw [if_pos hn, z1, z2]
            exact RepO_zero non hnm air.rep
          · rw [if_neg (by rw [hs]; simp)]
            have := inv.rep k z hz
            rw [hs] at this
            exact RepO_sub T1.sub (.refl _) this
      · intro k j hkj b o x y
        rcases fsE k b o x with ⟨e1, x'⟩ | ⟨n1, x'⟩ <;> rcases fsE j b o y with ⟨e2, y'⟩ | ⟨n2, y'⟩
        · exact hkj (e1.trans e2.symm)
        · exact inv.tot j b o y' (sfn b o x')
        · exact inv.tot k b o x' (sfn b o y')
        · exact inv.disj k j hkj b o x' y'
      · intro k b o x y
        rcases fsE k b o x with ⟨e1, x'⟩ | ⟨n1, x'⟩
        · exact air.tot b o x' y
        · exact tot1 k b o x' y
      · intro k b o x y
        rcases fsE k b o x with ⟨e1, x'⟩ | ⟨n1, x'⟩
        · exact air.imm b o x' y
        · exact imm1 k b o x' y
      · intro k b o x
        rcases fsE k b o x with ⟨e1, x'⟩ | ⟨n1, x'⟩
        · exact air.old b o x'
        · exact inv.old k b o x'
    obtain ⟨I', hr', cs', fs2, R', T', inv2, sf', hf⟩ := ih R1 (T.trans T1) inv' (fun k b o x => by
      rcases fsE k b o x with ⟨e1, x'⟩ | ⟨n1, x'⟩
      · exact T.tot b o (sfn b o x')
      · exact sf k b o x') hq
    refine ⟨I', hr', cs', fs2, R', T', inv2, sf', ?_⟩
    rw [← hf]
    have hc : (a.eval o).cells = csn.toArray := by rw [ey]; exact toVal_cells hnl (RepO_one air.rep)
    have hle : i * e.size + csn.length ≤ cs.length := by
      have := Nat.mul_le_mul_right e.size (show i + 1 ≤ n by omega)
      rw [Nat.add_mul, Nat.one_mul] at this
      rw [inv.clen, hnl]; exact this
    simp only [List.map_cons, Instr.fill, hc, List.size_toArray]
    rw [if_neg (by simp; omega)]
    congr 1
    apply Array.ext'
    rw [← Array.foldl_toList, Array.toList_zipIdx]
    have := fill_fold csn 0 (i * e.size) cs.toArray (by simp; omega)
    simp only [Nat.add_zero] at this
    simp only [this, lay]

theorem op_buildSlice (tok : TyOK P ty) {o : Oper} {a : Act} {w : World} {I : CS} {s s' : St} {hr : Nat → HR} {d T0 : Nat} {T : TypeId} {n : Nat} {parts : Array (Nat × Operand)} (R : StRel w I s hr a.tmps) (hd : d < s.n) (ho : o.op = .buildSlice T n parts) (hq : (op1Q ty s d T0 (.buildSlice T n parts)).Is s') : Done P o a w I s hr d s' := by
  simp only [op1Q, Q.is_bind', Q.is_of, Q.is_must, Q.is_pure, decide_eq_true_eq, Bool.and_eq_true, Option.bind_eq_some_iff] at hq
  obtain ⟨e, ⟨T', hT, he⟩, _, ⟨hsm, hsm2⟩, ⟨sh, l, s1⟩, hg, rfl⟩ := hq
  have : T' = .sl e := by cases T' <;> simp [elemOf] at he; rw [he]
  subst this
  obtain ⟨E, hu, hE⟩ : ∃ E, P.underlying T = some (.slice E) ∧ ty.ty E = some e := by have := tok.desc T _ hT; simpa only [FitD] using this
  have hcz : ∀ i, i < n → cut (List.replicate n (zeroCells e)).flatten e.size i = zeroCells e := fun i hi => flat_rep (zeroCells_len e) n i hi
  have inv0 : EInv w I (tot s.home? hr) e n none (List.replicate n e.zero) (List.replicate n (zeroCells e)).flatten (fun _ => non) := by
    refine ⟨by simp, by simp [zeroCells_len], fun i y hy => ?_, fun _ i y hy => ?_, fun _ _ _ _ _ h => h.elim, fun _ _ _ h => h.elim, fun _ _ _ h => h.elim, fun _ _ _ h => h.elim⟩
    all_goals
      have hi : i < n := by have := (List.getElem?_eq_some_iff.1 hy).1; simpa using this
      have : y = e.zero := by rw [← (List.getElem?_eq_some_iff.1 hy).2]; simp
      subst this
      rw [hcz i hi]
    · exact RepO_deep w I _ e
    · exact ⟨rfl, rfl⟩
  obtain ⟨I', hr', cs, fs, R', T1, inv, sf, hf⟩ := giveEls_sound R (.refl w I s.home? hr) inv0 (fun _ _ _ h => h.elim) hg
  have hn : s1.n = s.n := giveEls_n hg
  have hmap : (parts.map fun (i, x) => (i, a.eval x)).toList = parts.toList.map fun p => (p.1, a.eval p.2) := by rw [Array.toList_map]
  rw [← hmap] at hf
  have A : Alloc cs.toArray E w (w.alloc (.cells cs.toArray E)) := ⟨rfl, rfl, rfl, rfl⟩
  have key := new_slice (w := w) (I := I') (e := e) (s := sh.getD e.deep) (l := l) (cap := n) A ((List.range n).map (cut cs e.size)) fs (by simp [inv.len]) ⟨by rw [inv.len]; exact Nat.le_refl _, by rw [inv.len]; simp only [maxLen]; omega⟩ (by simp [inv.clen]) (fun i ci hci => by
      have hi : i < n := by have := (List.getElem?_eq_some_iff.1 hci).1; simpa using this
      rw [List.getElem?_map, List.getElem?_range hi] at hci
      simp only [Option.map_some, Option.some.injEq] at hci
      subst hci
      refine ⟨cut_len inv.clen hi, fun j v hv => ?_⟩
      have hj : j < e.size := by have := (List.getElem?_eq_some_iff.1 hv).1; rwa [cut_len inv.clen hi] at this
      rw [cut_get hj] at hv
      rw [List.getElem?_toArray]; exact hv) (fun i y ci hy hci => by
      have hi : i < n := by have := (List.getElem?_eq_some_iff.1 hci).1; simpa using this
      rw [List.getElem?_map, List.getElem?_range hi] at hci
      simp only [Option.map_some, Option.some.injEq] at hci
      subst hci
      exact inv.rep i y hy) R'.1.old inv.old inv.disj
  rw [inv.len] at key
  refine ⟨_, _, I', _, ?_, new_home' R' (A.fr _) (by omega) (H := ⟨.own (sh.getD e.deep), .sl e, l, false, false, true⟩) key (f := fun b o => ∃ i, fs i b o) (fun b o x => x.elim (fun x => .inr (by show w.heap.size ≤ b; omega)) fun x => .inl x) (fun b o x => ?_) (fun b o ⟨i, x⟩ y => inv.tot i b o x y) (fun b o ⟨i, x⟩ y => inv.imm i b o x y) rfl ev_own T1 (fun b o ⟨i, x⟩ => sf i b o x)⟩
  · simp only [execOp, ho, Sem.run_bind, run_buildSlice' tok hu hE hsm hf, Result.andThen_ok, Sem.run_pure]
  · rw [A.size]
    exact x.elim (fun x => by omega) fun ⟨i, x⟩ => Nat.lt_succ_of_lt (inv.old i b o x)
end Go.VM
/- Soundness, part 23: 'assign', 'max', 'min'. -/
namespace Go.VM
variable {P : Program} {ty : Types}

inductive All2 {α β : Type} (R : α → β → Prop) : List α → List β → Prop
  | nil : All2 R [] []
  | cons {a b l m} : R a b → All2 R l m → All2 R (a :: l) (b :: m)
theorem tvsQ_sound {w : World} {I : CS} {s : St} {hr : Nat → HR} {a : Act} (R : StRel w I s hr a.tmps) : ∀ {l : List Operand} {r : List TV}, (s.tvsQ l).Is r → All2 (fun o v => ∃ cs, a.eval o = toVal v.1 cs ∧ RepC w I v.1 v.2 cs) l r
  | [], r, h => by simp only [St.tvsQ, Q.is_ret] at h; subst h; exact .nil
  | o :: l, r, h => by
    simp only [St.tvsQ, Q.is_bind', Q.is_pure] at h
    obtain ⟨v, hv, r', hr', rfl⟩ := h
    exact .cons (pv_rel R hv) (tvsQ_sound R hr')
theorem run_max {w : World} {I : CS} {k : IntKind} : ∀ {l : List Value} {r : List TV} {x m : Int}, All2 (fun v u => ∃ cs, v = toVal u.1 cs ∧ RepC w I u.1 u.2 cs) l r → foldMax true k x r = some m →
    (l.foldlM Builtin.max2 (.int k x)).run P w = .ok (.int k m) w
  | [], r, x, m, h, hm => by cases h; simp only [foldMax, Option.some.injEq] at hm; subst hm; rfl
  | v :: l, r, x, m, h, hm => by
    cases h
    rename_i u r h1 h2
    obtain ⟨t, y⟩ := u
    cases t <;> simp only [foldMax] at hm <;> try cases hm
    rename_i k'
    cases hk : decide (k = k') with
    | false => rw [hk] at hm; cases hm
    | true =>
      rw [hk] at hm
      simp only [cond_true] at hm
      have := run_max h2 hm
      obtain ⟨cs, e1, c⟩ := h1
      simp only [RepC] at c
      subst c
      rw [e1, toVal_one rfl, List.foldlM_cons, Sem.run_bind]
      have e2 : (Builtin.max2 (.int k x) (.int k' y)).run P w = .ok (.int k (bif decide (x < y) then y else x)) w := by
        simp only [Builtin.max2, Sem.run_pure]
        congr 2
        by_cases hxy : x < y <;> simp [hxy]
      rw [e2, Result.andThen_ok]
      exact this
theorem run_min {w : World} {I : CS} {k : IntKind} : ∀ {l : List Value} {r : List TV} {x m : Int}, All2 (fun v u => ∃ cs, v = toVal u.1 cs ∧ RepC w I u.1 u.2 cs) l r → foldMax false k x r = some m →
    (l.foldlM Builtin.min2 (.int k x)).run P w = .ok (.int k m) w
  | [], r, x, m, h, hm => by cases h; simp only [foldMax, Option.some.injEq] at hm; subst hm; rfl
  | v :: l, r, x, m, h, hm => by
    cases h
    rename_i u r h1 h2
    obtain ⟨t, y⟩ := u
    cases t <;> simp only [foldMax] at hm <;> try cases hm
    rename_i k'
    cases hk : decide (k = k') with
    | false => rw [hk] at hm; cases hm
    | true =>
      rw [hk] at hm
      simp only [cond_true, cond_false] at hm
      have := run_min h2 hm
      obtain ⟨cs, e1, c⟩ := h1
      simp only [RepC] at c
      subst c
      rw [e1, toVal_one rfl, List.foldlM_cons, Sem.run_bind]
      have e2 : (Builtin.min2 (.int k x) (.int k' y)).run P w = .ok (.int k (bif decide (y < x) then y else x)) w := by
        simp only [Builtin.min2, Sem.run_pure]
        congr 2
        by_cases hxy : y < x <;> simp [hxy]
      rw [e2, Result.andThen_ok]
      exact this

theorem op_minmax {o : Oper} {a : Act} {w : World} {I : CS} {s s' : St} {hr : Nat → HR} {d : Nat} {c : Call} {b : Builtin} (R : StRel w I s hr a.tmps) (hd : d < s.n) (ho : o.op = .call c) (hc : c.callee = .builtin b) (hb : b = .max ∨ b = .min)
    (hq : (builtinQ ty s d b c).Is s') : Done P o a w I s hr d s' := by
  have main : ∀ (big : Bool) {k : IntKind} {x m : Int} {r : List TV}, (big = true ∧ b = .max ∨ big = false ∧ b = .min) → (s.tvsQ c.args.toList).Is (⟨.int k, x⟩ :: r) → foldMax big k x r = some m → Done P o a w I s hr d (s.set d (.at (.pv ⟨.int k, m⟩))) := by
    intro big k x m r hbb hq hm
    have hF := tvsQ_sound R hq
    cases hl : c.args.toList with
    | nil => rw [hl] at hF; cases hF
    | cons o1 os =>
      rw [hl] at hF
      cases hF
      rename_i h1 h2
      obtain ⟨cs, e1, c1⟩ := h1
      simp only [RepC] at c1
      subst c1
      have e1 : a.eval o1 = .int k x := e1
      have h2' : All2 (fun v u => ∃ cs, v = toVal u.1 cs ∧ RepC w I u.1 u.2 cs) (os.map a.eval) r := by
        clear hm hl hq e1
        induction h2 with
        | nil => exact .nil
        | cons h _ ih => exact .cons h ih
      have hargs : (c.args.map a.eval).toList = .int k x :: os.map a.eval := by rw [Array.toList_map, hl, List.map_cons, e1]
      refine done_pure R hd (v := .int k m) ?_ (pv_int k m)
      rcases hbb with ⟨rfl, rfl⟩ | ⟨rfl, rfl⟩
      · have := run_max (P := P) h2' hm
        simp [execOp, ho, resolve, hc, invoke, builtin, Builtin.max_, hl, e1, this]
      · have := run_min (P := P) h2' hm
        simp [execOp, ho, resolve, hc, invoke, builtin, Builtin.min_, hl, e1, this]
  rcases hb with rfl | rfl
  · simp only [builtinQ, Q.is_bind'] at hq
    obtain ⟨l, hl, hq⟩ := hq
    cases l with
    | nil => simp only [Q.is_fail] at hq
    | cons u r =>
      obtain ⟨t, x⟩ := u
      cases t <;> simp only [Q.is_fail] at hq
      simp only [Q.is_bind', Q.is_of, Q.is_pure] at hq
      obtain ⟨m, hm, rfl⟩ := hq
      exact main true (.inl ⟨rfl, rfl⟩) hl hm
  · simp only [builtinQ, Q.is_bind'] at hq
    obtain ⟨l, hl, hq⟩ := hq
    cases l with
    | nil => simp only [Q.is_fail] at hq
    | cons u r =>
      obtain ⟨t, x⟩ := u
      cases t <;> simp only [Q.is_fail] at hq
      simp only [Q.is_bind', Q.is_of, Q.is_pure] at hq
      obtain ⟨m, hm, rfl⟩ := hq
      exact main false (.inr ⟨rfl, rfl⟩) hl hm

/-! ### 'assign' -/
theorem ren_dead (h g : Nat) : ren h g .dead = .dead := rfl
/-- a home under another number -/
theorem rename_sound {w : World} {I : CS} {s : St} {hr : Nat → HR} {tmps : Array Value} {h d : Nat} {H : Home} (R : StRel w I s hr tmps) (hH : s.home? h = some H) (hne : h ≠ d) (hio : H.io = false) :
    let s' := (((s.mapA (killH d)).mapA (ren h d)).setH h none).setH d (some (H.mark true))
    StRel w I s' (upd hr d (hr h)) tmps ∧ Trans w I s.home? hr w I s'.home? (upd hr d (hr h)) ∧ ∀ e v, EvRel w I s.home? hr e v → EvRel w I s'.home? (upd hr d (hr h)) ((e.map (killH d)).map (ren h d)) v := by
  intro s'
  have hx : ∀ g, s'.home? g = if d = g then some (H.mark true) else if h = g then none else s.home? g := by
    intro g
    simp only [s', home?_setH, home?_mapA]
  obtain ⟨Rr, Rs, Rn⟩ := R
  -- each home is one of the elder ones
  have old : ∀ g G, s'.home? g = some G → ∃ k G0, s.home? k = some G0 ∧ (G = G0 ∨ G = G0.mark true) ∧ upd hr d (hr h) g = hr k ∧ (k = h ↔ g = d) ∧ (g ≠ d → k = g) := by
    intro g G hG
    rw [hx] at hG
    by_cases e : d = g
    · subst e
      rw [if_pos rfl] at hG; cases hG
      exact ⟨h, H, hH, .inr rfl, by rw [upd_same], by simp, fun e => absurd rfl e⟩
    · rw [if_neg e] at hG
      split at hG
      · cases hG
      · rename_i e2
        exact ⟨g, G, hG, .inl rfl, by rw [upd_ne e], ⟨fun x => absurd x.symm e2, fun x => absurd x.symm e⟩, fun _ => rfl⟩
  have evs : ∀ e v, EvRel w I s.home? hr e v → EvRel w I s'.home? (upd hr d (hr h)) ((e.map (killH d)).map (ren h d)) v := by
    intro e v he
    have hcomp : (e.map (killH d)).map (ren h d) = e.map fun a => ren h d (killH d a) := by
      cases e <;> simp [EV.map]
    rw [hcomp]
    refine EvRel_map (fun a r ha => ?_) he
    have move : ∀ {a : At}, refA a = some h → AtRel w I s.home? hr a r → AtRel w I s'.home? (upd hr d (hr h)) (ren h d a) r := by
      intro a hra ha
      have hd' : s'.home? d = some (H.mark true) := by rw [hx, if_pos rfl]
      cases a with
      | rf g p =>
        cases hra
        simp only [ren, beq_iff.2 rfl, cond_true]
        intro H' hH'
        rw [hd'] at hH'; cases hH'
        rw [upd_same]; exact ha H hH
      | rg g p lo hi =>
        cases hra
        simp only [ren, beq_iff.2 rfl, cond_true]
        intro H' hH'
        rw [hd'] at hH'; cases hH'
        rw [upd_same]; exact ha H hH
      | ptr g p =>
        cases hra
        simp only [ren, beq_iff.2 rfl, cond_true]
        intro H' hH'
        rw [hd'] at hH'; cases hH'
        rw [upd_same]; exact ha H hH
      | _ => cases hra
    have stay : ∀ {a : At}, (∀ g, refA a = some g → g ≠ d ∧ g ≠ h) → AtRel w I s.home? hr a r → AtRel w I s'.home? (upd hr d (hr h)) a r := by
      intro a hra ha
      refine AtRel_stay (.refl _) (Keep.refl _ _) (fun g hg => ?_) ha
      obtain ⟨n1, n2⟩ := hra g hg
      cases hG : s.home? g with
      | none => exact .inl (by rw [hx, if_neg (Ne.symm n1), if_neg (Ne.symm n2)]; exact hG)
      | some G => exact .inr ⟨G, G, hG, by rw [hx, if_neg (Ne.symm n1), if_neg (Ne.symm n2)]; exact hG, rfl, rfl, by rw [upd_ne (Ne.symm n1)], Keep.refl _ _, by rw [upd_ne (Ne.symm n1)]; exact .refl _⟩
    have three : ∀ a : At, (killH d a = .dead) ∨ (killH d a = a ∧ refA a = some h) ∨ (killH d a = a ∧ ren h d a = a ∧ ∀ g, refA a = some g → g ≠ d ∧ g ≠ h) := by
      intro a
      cases a with
      | rf g p =>
        by_cases e : g = d
        · exact .inl (by simp only [killH, beq_iff.2 e, cond_true])
        · by_cases e2 : g = h
          · exact .inr (.inl ⟨by simp only [killH, beq_false e, cond_false], by rw [e2]; rfl⟩)
          · exact .inr (.inr ⟨by simp only [killH, beq_false e, cond_false], by simp only [ren, beq_false e2, cond_false], fun k hk => by cases hk; exact ⟨e, e2⟩⟩)
      | rg g p lo hi =>
        by_cases e : g = d
        · exact .inl (by simp only [killH, beq_iff.2 e, cond_true])
        · by_cases e2 : g = h
          · exact .inr (.inl ⟨by simp only [killH, beq_false e, cond_false], by rw [e2]; rfl⟩)
          · exact .inr (.inr ⟨by simp only [killH, beq_false e, cond_false], by simp only [ren, beq_false e2, cond_false], fun k hk => by cases hk; exact ⟨e, e2⟩⟩)
      | ptr g p =>
        by_cases e : g = d
        · exact .inl (by simp only [killH, beq_iff.2 e, cond_true])
        · by_cases e2 : g = h
          · exact .inr (.inl ⟨by simp only [killH, beq_false e, cond_false], by rw [e2]; rfl⟩)
          · exact .inr (.inr ⟨by simp only [killH, beq_false e, cond_false], by simp only [ren, beq_false e2, cond_false], fun k hk => by cases hk; exact ⟨e, e2⟩⟩)
      | _ => exact .inr (.inr ⟨rfl, rfl, fun k hk => by cases hk⟩)
    rcases three a with e | ⟨e, hra⟩ | ⟨e, e2, hra⟩
    · rw [e]; trivial
    · rw [e]; exact move hra ha
    · rw [e, e2]; exact stay hra ha
  refine ⟨⟨⟨?_, ?_, ?_, Rr.old, ?_⟩, ?_, Rn⟩, ⟨.refl _ _, .refl _, fun _ _ x => .inl x, ?_, ?_⟩, evs⟩
  · intro g G hG
    obtain ⟨k, G0, e1, e0, e2, _, _⟩ := old g G hG
    rw [e2]
    rcases e0 with rfl | rfl
    · exact Rr.home k _ e1
    · have h0 := Rr.home k _ e1; exact h0
  · intro g j G J hG hJ e
    obtain ⟨k, G0, e1, e0, e2, e3, e4⟩ := old g G hG
    obtain ⟨l, J0, f1, f0, f2, f3, f4⟩ := old j J hJ
    rw [e2, f2]
    refine Rr.disj k l G0 J0 e1 f1 fun e5 => ?_
    subst e5
    by_cases e6 : k = h
    · exact e ((e3.1 e6).trans (f3.1 e6).symm)
    · exact e ((e4 fun x => e6 (e3.2 x)).symm.trans (f4 fun x => e6 (f3.2 x)))
  · intro g G hG
    obtain ⟨k, G0, e1, e0, e2, _, _⟩ := old g G hG
    rw [e2]; exact Rr.apart k G0 e1
  · intro g G hG
    obtain ⟨k, G0, e1, e0, e2, _, _⟩ := old g G hG
    rw [e2]; exact Rr.oldf k G0 e1
  · intro n
    have := evs _ _ (Rs n)
    have hg : s'.get n = ((s.get n).map (killH d)).map (ren h d) := by
      simp only [s', get_setH]
      rw [get_mapA _ _ (ren_dead h d), get_mapA _ _ (killH_dead d)]
    rw [hg]; exact this
  · rintro b o ⟨g, G, hG, x⟩
    obtain ⟨k, G0, e1, e0, e2, _, _⟩ := old g G hG
    rw [e2] at x
    exact .inl ⟨k, G0, e1, x⟩
  · intro g G hG io
    rw [hx] at hG
    by_cases e : d = g
    · rw [if_pos e] at hG; cases hG; have io : H.io = true := io; rw [hio] at io; cases io
    · rw [if_neg e] at hG
      split at hG
      · cases hG
      · exact ⟨G, hG, io, rfl, rfl, by rw [upd_ne e]⟩

theorem run_assign {o : Oper} {a : Act} {x : Operand} {w : World} (ho : o.op = .assign x) : (execOp a.eval o).run P w = .ok (.value (a.eval x)) w := by simp [execOp, ho]
theorem op_assign (tok : TyOK P ty) {o : Oper} {a : Act} {w : World} {I : CS} {s s' : St} {hr : Nat → HR} {d T0 : Nat} {x : Operand} (R : StRel w I s hr a.tmps) (hd : d < s.n) (ho : o.op = .assign x) (hq : (assignQ ty s d T0 (s.ev x)).Is s') : Done P o a w I s hr d s' := by
  have plain : Done P o a w I s hr d (s.set d (s.ev x)) := op_move (s' := s) R hd (.inr ho)
  have hev := ev_rel R x
  cases he : s.ev x with
  | tup l => rw [he] at hq plain; simp only [assignQ, Q.is_ret] at hq; subst hq; exact plain
  | fn f l => rw [he] at hq plain; simp only [assignQ, Q.is_ret] at hq; subst hq; exact plain
  | «at» v =>
    rw [he] at hq plain hev
    cases v with
    | nils =>
      simp only [assignQ] at hq
      split at hq
      · rename_i t hT
        rw [Q.is_ret] at hq
        subst hq
        have hv : a.eval x = .slice none 0 0 := hev
        refine ⟨_, w, I, _, run_assign ho, new_home' R (Fr.refl non w) hd (H := ⟨.own t.deep, .sl t, [], false, false, true⟩) (cs := [a.eval x]) (fp := non) ?_ (fun _ _ h => h.elim) (fun _ _ h => h.elim) (fun _ _ h => h.elim) (fun _ _ h => h.elim) rfl ev_own (.refl ..) (fun _ _ h => h.elim)⟩
        rw [hv]
        simp only [HRel, RepO]
        exact SlO_nil ..
      · simp only [Q.is_fail] at hq
    | rf h p =>
      simp only [assignQ] at hq
      cases hb : Nat.beq h d with
      | true => rw [hb] at hq; simp only [cond_true, Q.is_ret] at hq; subst hq; exact plain
      | false =>
        rw [hb] at hq
        simp only [cond_false] at hq
        cases p with
        | cons st p => simp only [Q.is_ret] at hq; subst hq; exact plain
        | nil =>
          simp only [Q.is_bind', homeQ_is] at hq
          obtain ⟨H, hH, hq⟩ := hq
          cases hio : (H.io || H.bx) with
          | true => rw [hio] at hq; simp only [cond_true, Q.is_ret] at hq; subst hq; exact plain
          | false =>
            rw [hio] at hq
            simp only [cond_false, Q.is_ret] at hq
            subst hq
            simp only [Bool.or_eq_false_iff] at hio
            have hne : h ≠ d := fun e => by rw [beq_iff.2 e] at hb; cases hb
            obtain ⟨R', T', ev'⟩ := rename_sound R hH hne hio.1
            have hv := ev' _ _ hev
            have hmap : ((EV.at (.rf h [])).map (killH d)).map (ren h d) = .at (.rf d []) := by
              simp only [EV.map, killH, beq_false hne, cond_false, ren, beq_iff.2 rfl, cond_true]
            rw [hmap] at hv
            exact ⟨_, w, I, _, run_assign ho, set_slot R' (Nat.lt_of_lt_of_le hd R.2.2) hv, T'⟩
    | rg h p lo hi =>
      simp only [assignQ] at hq
      split at hq
      · rename_i h' heq
        cases hb : Nat.beq h h' with
        | false => rw [hb] at hq; simp only [cond_false, Q.is_ret] at hq; subst hq; exact plain
        | true =>
          rw [hb] at hq
          simp only [cond_true, Q.is_bind', Q.is_of, Q.is_pure] at hq
          obtain ⟨⟨Hp, s1⟩, ht, y, hy, rfl⟩ := hq
          obtain ⟨H, hH, k⟩ := take_air R ht
          obtain ⟨ok, hlo, loc, ad, len, cap, e', l1, ty1, hhi, hcap, ad', rr, had⟩ := hev H hH
          obtain ⟨hr', f, R', T, ty', ai, sf, hcs⟩ := k ok loc _ _ l1
          rw [ty1] at ty'
          have hw := take_whole ht
          obtain ⟨H2, _, k2⟩ := take_sound R ht
          have hbi : Hp.bx = false ∧ Hp.io = false := by
            have : s.home? h = some H := hH
            simp only [St.take, Q.is_bind', Q.is_must] at ht
            obtain ⟨H0, _, q0, _, _, _, ht⟩ := ht
            cases hc : (([] : Path).isEmpty && !H0.bx) <;> simp only [hc, cond_true, cond_false, Q.is_bind', Q.is_must, Q.is_pure] at ht
            all_goals (obtain ⟨_, _, ht⟩ := ht; simp only [Prod.mk.injEq] at ht; rw [← ht.1]; exact ⟨rfl, rfl⟩)
          obtain ⟨sh, t, z, bx, io, dd⟩ := Hp
          simp only at ty' ai hy hw hbi
          obtain ⟨rfl, rfl⟩ := hbi
          cases ty'
          simp only [cutOf, Option.some.injEq] at hy
          subst hy
          have rep := RepO_cut ai.rep hw hlo hhi had
          rw [← rr] at rep
          have hn1 : s1.n = s.n := take_n ht
          refine ⟨_, w, I, _, run_assign ho, new_home' R' (Fr.refl f w) (by omega) (H := ⟨sh, .sl e', (z.drop lo).take (hi - lo), false, false, dd⟩) (cs := [a.eval x]) (fp := f) rep (fun b o x => .inl x) ai.old ai.tot ai.imm rfl ?_ T (fun b o x => .inl (sf b o x))⟩
          have := ev_val (w := w) (I := I) (hm := (s1.newH d ⟨sh, .sl e', (z.drop lo).take (hi - lo), false, false, dd⟩).home?) (hr := upd hr' d ⟨[a.eval x], f⟩) (d := d) (H := ⟨sh, .sl e', (z.drop lo).take (hi - lo), false, false, dd⟩) (cs := [a.eval x]) (fp := f) (by rw [home?_newH, if_pos rfl]) rfl (by rw [upd_same])
          rwa [toVal_one rfl] at this
      · rw [Q.is_ret] at hq; subst hq; exact plain
    | _ => simp only [assignQ, Q.is_ret] at hq; subst hq; exact plain
end Go.VM
/- Soundness, part 23m: maps that are owned. -/
namespace Go.VM
variable {P : Program} {ty : Types}

/-! ### asking for a key -/
/-- what looking for a key finds: nothing, or number j with its value -/
def Found {k v : Ty} (l : List (k.den × v.den)) (x : k.den) (es : List MapEntry) (i : Nat) (r : Option (Nat × Value)) : Prop :=
  (r = none ∧ getM k v l x = none ∧ ∀ y, setM k v l x y = l ++ [(x, y)]) ∨
  ∃ j e x' y, r = some (i + j, e.val) ∧ es[j]? = some e ∧ l[j]? = some (x', y) ∧ k.eqv x x' = true ∧ getM k v l x = some y ∧ ∀ z, setM k v l x z = l.set j (x, z)
theorem Found.nil {k v : Ty} {x : k.den} {i : Nat} : Found (v := v) [] x [] i none := .inl ⟨rfl, rfl, fun _ => rfl⟩
theorem Found.here {k v : Ty} {l : List (k.den × v.den)} {x x' : k.den} {y : v.den} {e : MapEntry} {es : List MapEntry} {i : Nat} (h : k.eqv x x' = true) : Found ((x', y) :: l) x (e :: es) i (some (i, e.val)) :=
  .inr ⟨0, e, x', y, rfl, rfl, rfl, h, by simp [getM, h], fun z => by simp [setM, h]⟩
theorem Found.there {k v : Ty} {l : List (k.den × v.den)} {x x' : k.den} {y : v.den} {e : MapEntry} {es : List MapEntry} {i : Nat} {r : Option (Nat × Value)} (h : k.eqv x x' = false) (f : Found l x es (i + 1) r) : Found ((x', y) :: l) x (e :: es) i r := by
  rcases f with ⟨h1, h2, h3⟩ | ⟨j, e', x2, y2, h1, h2, h3, h4, h5, h6⟩
  · exact .inl ⟨h1, by simp [getM, h, h2], fun z => by simp [setM, h, h3]⟩
  · exact .inr ⟨j + 1, e', x2, y2, by rw [h1]; congr 2; omega, by simpa using h2, by simpa using h3, h4, by simp [getM, h, h5], fun z => by simp [setM, h, h6]⟩
/-- the entries tell the list -/
def Ents (w : World) (I : CS) (k v : Ty) : List (k.den × v.den) → List MapEntry → Prop
  | [], [] => True
  | (x, y) :: l, e :: es => (∃ c, e.key = toVal k c ∧ RepC w I k x c) ∧ (∃ c, e.val = toVal v c ∧ RepC w I v y c) ∧ Ents w I k v l es
  | _, _ => False
theorem ents_of {w : World} {I : CS} {k v : Ty} : ∀ {l : List (k.den × v.den)} {es : List MapEntry}, es.length = l.length →
    (∀ (i : Nat) x y, l[i]? = some (x, y) → ∃ e : MapEntry, es[i]? = some e ∧ (∃ c, e.key = toVal k c ∧ RepC w I k x c) ∧ (∃ c, e.val = toVal v c ∧ RepC w I v y c)) → Ents w I k v l es
  | [], [], _, _ => trivial
  | (x, y) :: l, e :: es, hl, h => by
    obtain ⟨e', h1, h2, h3⟩ := h 0 x y rfl
    simp at h1; subst h1
    exact ⟨h2, h3, ents_of (by simpa using hl) fun i x y hi => by
      obtain ⟨e', g1, g2⟩ := h (i + 1) x y (by simpa using hi)
      exact ⟨e', by simpa using g1, g2⟩⟩
  | [], _ :: _, h, _ => by simp at h
  | _ :: _, [], h, _ => by simp at h
theorem ents_get {w : World} {I : CS} {k v : Ty} : ∀ {l : List (k.den × v.den)} {es : List MapEntry}, Ents w I k v l es → es.length = l.length ∧
    ∀ (i : Nat) x y, l[i]? = some (x, y) → ∃ e : MapEntry, es[i]? = some e ∧ (∃ c, e.key = toVal k c ∧ RepC w I k x c) ∧ (∃ c, e.val = toVal v c ∧ RepC w I v y c)
  | [], [], _ => ⟨rfl, fun i x y h => by simp at h⟩
  | (x, y) :: l, e :: es, ⟨h1, h2, h3⟩ => by
    obtain ⟨g1, g2⟩ := ents_get h3
    refine ⟨by simp [g1], fun i x' y' h => ?_⟩
    cases i with
    | zero => simp at h; obtain ⟨rfl, rfl⟩ := h; exact ⟨e, rfl, h1, h2⟩
    | succ i => simp at h; obtain ⟨e', a, b⟩ := g2 i x' y' h; exact ⟨e', by simpa using a, b⟩
  | [], _ :: _, h => h.elim
  | _ :: _, [], h => h.elim
theorem run_asking (tok : TyOK P ty) (hkq : ty.kq = true) {K : TypeId} {k v : Ty} (hK : ty.ty K = some k) (hc : k.cmp = true) {w : World} {I : CS} {x : k.den} {cx : List Value} (rx : RepC w I k x cx) : ∀ {l : List (k.den × v.den)} {es : List MapEntry} (i : Nat), Ents w I k v l es →
    ∃ r, (Instr.findAsking K (toVal k cx) es i).run P w = .ok r w ∧ Found l x es i r
  | [], [], i, _ => ⟨none, rfl, .nil⟩
  | (x', y) :: l, e :: es, i, ⟨⟨c, h1, r1⟩, _, h3⟩ => by
    have hq := (tok.keyq hkq K k hK hc w I x cx rx).1 x' c r1
    rw [← h1] at hq
    cases hb : k.eqv x x' with
    | true =>
      rw [hb] at hq
      exact ⟨some (i, e.val), by simp [Instr.findAsking, hq], .here hb⟩
    | false =>
      rw [hb] at hq
      obtain ⟨r, g1, g2⟩ := run_asking tok hkq hK hc rx (i + 1) h3
      exact ⟨r, by simp [Instr.findAsking, hq, g1], .there hb g2⟩
  | [], _ :: _, _, h => h.elim
  | _ :: _, [], _, h => h.elim
theorem run_now {d : TypeDesc} {k v : Ty} {w : World} {I : CS} {x : k.den} {cx : List Value} (hs : ∀ x' c, RepC w I k x' c → Instr.sameNow d (toVal k cx) (toVal k c) = some (k.eqv x x')) : ∀ {l : List (k.den × v.den)} {es : List MapEntry} (i : Nat), Ents w I k v l es →
    ∃ r, Instr.findNow d (toVal k cx) es i = some r ∧ Found l x es i r
  | [], [], i, _ => ⟨none, rfl, .nil⟩
  | (x', y) :: l, e :: es, i, ⟨⟨c, h1, r1⟩, _, h3⟩ => by
    have hq := hs x' c r1
    rw [← h1] at hq
    cases hb : k.eqv x x' with
    | true =>
      rw [hb] at hq
      exact ⟨some (i, e.val), by simp [Instr.findNow, hq], .here hb⟩
    | false =>
      rw [hb] at hq
      obtain ⟨r, g1, g2⟩ := run_now hs (i + 1) h3
      exact ⟨r, by simp [Instr.findNow, hq, g1], .there hb g2⟩
  | [], _ :: _, _, h => h.elim
  | _ :: _, [], _, h => h.elim
theorem str_eqv (tok : TyOK P ty) (hkq : ty.kq = true) {K : TypeId} (hK : ty.ty K = some .str) {x y : ByteArray} (hx : x.size ≤ maxLen) (hy : y.size ≤ maxLen) : (x == y) = Ty.eqv .str x y := by
  have hd := tok.desc K _ hK
  simp only [FitD] at hd
  have h := (tok.keyq hkq K .str hK rfl (default : World) non x [.string x] (by simp only [RepC]; exact ⟨trivial, hx⟩)).1 y [.string y] (by simp only [RepC]; exact ⟨trivial, hy⟩)
  rw [toVal_one rfl, toVal_one rfl] at h
  obtain ⟨d, hm⟩ : ∃ d, Op.maxDepth = d + 1 := ⟨9999, rfl⟩
  simp only [Op.equal, hm, Op.equalIn, Sem.run_bind, run_underlying hd, Result.andThen_ok, Sem.run_pure, Result.ok.injEq, and_true] at h
  exact h
theorem str_eq {x y : ByteArray} (h : Ty.eqv .str x y = true) : x = y := by
  simp only [Ty.eqv, decide_eq_true_eq] at h
  rw [ByteArray.toList_eq, ByteArray.toList_eq] at h
  exact WideShapes.bytes_inj h
theorem run_findKey' (tok : TyOK P ty) (hkq : ty.kq = true) {K : TypeId} {k v : Ty} (hK : ty.ty K = some k) (hc : k.cmp = true) {w : World} {I : CS} {x : k.den} {cx : List Value} (rx : RepC w I k x cx) {l : List (k.den × v.den)} {es : List MapEntry} (h : Ents w I k v l es) :
    ∃ r, (Instr.findKey K (toVal k cx) es).run P w = .ok r w ∧ Found l x es 0 r := by
  have hd := tok.desc K _ hK
  have now : ∀ {d : TypeDesc}, P.underlying K = some d → (∀ x' c, RepC w I k x' c → Instr.sameNow d (toVal k cx) (toVal k c) = some (k.eqv x x')) → ∃ r, (Instr.findKey K (toVal k cx) es).run P w = .ok r w ∧ Found l x es 0 r := by
    intro d hu hs
    obtain ⟨r, h1, h2⟩ := run_now hs 0 h
    exact ⟨r, by simp [Instr.findKey, run_underlying hu, h1], h2⟩
  have ask : ∀ {fs : Array Field}, P.underlying K = some (.struct fs) → ∃ r, (Instr.findKey K (toVal k cx) es).run P w = .ok r w ∧ Found l x es 0 r := by
    intro fs hu
    cases es with
    | nil =>
      cases l with
      | nil => exact ⟨none, by simp [Instr.findKey, run_underlying hu, Instr.findNow], .nil⟩
      | cons _ _ => exact h.elim
    | cons e es =>
      obtain ⟨r, h1, h2⟩ := run_asking tok hkq hK hc rx 0 h
      exact ⟨r, by simp [Instr.findKey, run_underlying hu, Instr.findNow, Instr.sameNow, h1], h2⟩
  cases k with
  | int kk =>
    simp only [FitD] at hd
    simp only [RepC] at rx
    refine now hd fun x' c r => ?_
    simp only [RepC] at r
    subst rx r
    rw [toVal_one rfl, toVal_one rfl]
    simp [Instr.sameNow, Ty.eqv]
    rfl
  | bool =>
    simp only [FitD] at hd
    simp only [RepC] at rx
    refine now hd fun x' c r => ?_
    simp only [RepC] at r
    subst rx r
    rw [toVal_one rfl, toVal_one rfl]
    simp [Instr.sameNow, Ty.eqv]
  | str =>
    simp only [FitD] at hd
    simp only [RepC] at rx
    refine now hd fun x' c r => ?_
    simp only [RepC] at r
    obtain ⟨rfl, hx0⟩ := rx
    obtain ⟨rfl, hy0⟩ := r
    rw [toVal_one rfl, toVal_one rfl]
    simp only [Instr.sameNow, str_eqv tok hkq hK hx0 hy0]
  | unit => simp only [FitD] at hd; obtain ⟨fs, hu, _⟩ := hd; exact ask hu
  | pair a b => simp only [FitD] at hd; obtain ⟨fs, hu, _⟩ := hd; exact ask hu
  | _ => cases hc
/-- equal keys lie alike -/
theorem eqv_cells {w : World} {I : CS} : ∀ {k : Ty} {x y : k.den} {cx cy : List Value}, k.cmp = true → RepC w I k x cx → RepC w I k y cy → k.eqv x y = true → cx = cy
  | .int _, x, y, cx, cy, _, hx, hy, h => by
    simp only [RepC] at hx hy
    have : (x : Int) = y := by simpa [Ty.eqv] using h
    rw [hx, hy, this]
  | .bool, x, y, cx, cy, _, hx, hy, h => by
    simp only [RepC] at hx hy
    have : (x : Bool) = y := by simpa [Ty.eqv] using h
    rw [hx, hy, this]
  | .str, x, y, cx, cy, _, hx, hy, h => by
    simp only [RepC] at hx hy
    rw [hx.1, hy.1, str_eq h]
  | .unit, x, y, cx, cy, _, hx, hy, h => by simp only [RepC] at hx hy; rw [hx, hy]
  | .pair a b, x, y, cx, cy, hc, hx, hy, h => by
    simp only [RepC] at hx hy
    simp only [Ty.cmp, Bool.and_eq_true] at hc
    simp only [Ty.eqv, Bool.and_eq_true] at h
    obtain ⟨c1, c2, e1, r1, r2⟩ := hx
    obtain ⟨d1, d2, e2, q1, q2⟩ := hy
    rw [e1, e2, eqv_cells hc.1 r1 q1 h.1, eqv_cells hc.2 r2 q2 h.2]
  | .sl _, _, _, _, _, hc, _, _, _ => by cases hc
  | .arr _ _, _, _, _, _, hc, _, _, _ => by cases hc
  | .mp _ _, _, _, _, _, hc, _, _, _ => by cases hc

/-! ### the operations -/
theorem cells_prim {w : World} {I : CS} : ∀ {k : Ty} {x : k.den} {cx : List Value}, k.cmp = true → RepC w I k x cx → ∀ c ∈ cx, (∃ j n, c = .int j n) ∨ (∃ b, c = .bool b) ∨ ∃ s, c = .string s
  | .int _, x, cx, _, hx => by simp only [RepC] at hx; subst hx; simp
  | .bool, x, cx, _, hx => by simp only [RepC] at hx; subst hx; simp
  | .str, x, cx, _, hx => by simp only [RepC] at hx; obtain ⟨rfl, _⟩ := hx; simp
  | .unit, x, cx, _, hx => by simp only [RepC] at hx; subst hx; simp
  | .pair a b, x, cx, hc, hx => by
    simp only [RepC] at hx
    simp only [Ty.cmp, Bool.and_eq_true] at hc
    obtain ⟨c1, c2, e1, r1, r2⟩ := hx
    subst e1
    intro c hm
    exact (List.mem_append.1 hm).elim (cells_prim hc.1 r1 c) (cells_prim hc.2 r2 c)
  | .sl _, _, _, hc, _ => by cases hc
  | .arr _ _, _, _, hc, _ => by cases hc
  | .mp _ _, _, _, hc, _ => by cases hc
theorem prim_same (n : Nat) {c : Value} (h : (∃ j m, c = .int j m) ∨ (∃ b, c = .bool b) ∨ ∃ s, c = .string s) : Instr.sameBits n c c = true := by
  rcases h with ⟨j, m, rfl⟩ | ⟨b, rfl⟩ | ⟨s, rfl⟩
  · simp [Instr.sameBits]
  · simp [Instr.sameBits]
  · simp [Instr.sameBits, MapKept.bytes_beq]
theorem zip_same (n : Nat) : ∀ {l : List Value}, (∀ c ∈ l, (∃ j m, c = .int j m) ∨ (∃ b, c = .bool b) ∨ ∃ s, c = .string s) → ((l.zip l).all fun (x, y) => Instr.sameBits n x y) = true
  | [], _ => rfl
  | c :: l, h => by
    simp only [List.zip_cons_cons, List.all_cons, Bool.and_eq_true]
    exact ⟨prim_same n (h c List.mem_cons_self), zip_same n fun c hc => h c (List.mem_cons_of_mem _ hc)⟩
theorem key_stays {w : World} {I : CS} {k : Ty} {x : k.den} {cx : List Value} (hc : k.cmp = true) (rx : RepC w I k x cx) : (Instr.keyThatStays (toVal k cx) (toVal k cx)).run P w = .ok (toVal k cx) w := by
  have hb : Instr.sameBits 10000 (toVal k cx) (toVal k cx) = true := by
    obtain ⟨d, hd⟩ : ∃ d, 10000 = d + 1 := ⟨9999, rfl⟩
    rw [hd]
    have hp := cells_prim hc rx
    by_cases ha : isAggT k = true
    · rw [toVal_agg ha]
      simp only [Instr.sameBits, BEq.rfl, Bool.true_and]
      exact zip_same d hp
    · have hl := RepC_len rx
      have hs : k.size = 1 := by cases k <;> first | rfl | exact absurd rfl ha
      rw [hs] at hl
      match cx, hl with
      | [c], _ => rw [toVal_one (by simpa using ha)]; exact prim_same _ (hp c List.mem_cons_self)
  simp [Instr.keyThatStays, hb]
/-- the map that an operand's value is -/
def MapV (w : World) (I : CS) (k v : Ty) (l : List (k.den × v.den)) (u : Value) : Prop :=
  (u = .map none ∧ l = []) ∨ ∃ b, u = .map (some b) ∧ MapAt w (fun x u => ∃ c, u = toVal k c ∧ RepC w I k x c) (fun y u => ∃ c, u = toVal v c ∧ RepC w I v y c) l b
theorem run_lookup' (tok : TyOK P ty) (hkq : ty.kq = true) {T : TypeId} {k v : Ty} (hT : ty.ty T = some (.mp k v)) (hc : k.cmp = true) {w : World} {I : CS} {x : k.den} {cx : List Value} (rx : RepC w I k x cx) {l : List (k.den × v.den)} {u : Value} (hm : MapV w I k v l u) (ok : Bool) :
    ∃ cv, RepC w I v ((getM k v l x).getD v.zero) cv ∧ (Instr.lookup T u (toVal k cx) ok).run P w = .ok (if ok then .tuple #[toVal v cv, .bool (getM k v l x).isSome] else toVal v cv) w := by
  obtain ⟨K, V, hu, hK, hV⟩ : ∃ K V, P.underlying T = some (.map K V) ∧ ty.ty K = some k ∧ ty.ty V = some v := by have := tok.desc T _ hT; simpa only [FitD] using this
  have fin : ∀ {es : Array MapEntry}, Ents w I k v l es.toList → ∃ r cv, (Instr.findKey K (toVal k cx) es.toList).run P w = .ok r w ∧ RepC w I v ((getM k v l x).getD v.zero) cv ∧ ((r = none ∧ getM k v l x = none ∧ cv = zeroCells v) ∨ ∃ i, r = some (i, toVal v cv) ∧ (getM k v l x).isSome = true) := by
    intro es he
    obtain ⟨r, hr, hf⟩ := run_findKey' tok hkq hK hc rx he
    rcases hf with ⟨h1, h2, _⟩ | ⟨j, e, x', y, h1, h2, h3, h4, h5, _⟩
    · exact ⟨r, zeroCells v, hr, by rw [h2]; exact RepC_zero w I v, .inl ⟨h1, h2, rfl⟩⟩
    · obtain ⟨e', g1, _, ⟨cv, g3, g4⟩⟩ := (ents_get he).2 j x' y h3
      rw [h2] at g1; cases g1
      exact ⟨r, cv, hr, by rw [h5]; exact g4, .inr ⟨0 + j, by rw [h1, g3], by rw [h5]; rfl⟩⟩
  have hck := fun em => (tok.keyq hkq K k hK hc w I x cx rx).2 em
  rcases hm with ⟨rfl, rfl⟩ | ⟨b, rfl, es, clock, hb, hsz, hents⟩
  · obtain ⟨r, cv, h0, h1, h2⟩ := fin (es := #[]) trivial
    refine ⟨cv, h1, ?_⟩
    simp only [Instr.lookup, Sem.run_bind, run_underlying hu, Result.andThen_ok, Sem.run_pure, hck, h0]
    rcases h2 with ⟨rfl, h2, rfl⟩ | ⟨i, rfl, h2⟩
    · simp only [Sem.run_bind, run_zeroValue' tok hV, Result.andThen_ok, Sem.run_pure, h2]; rfl
    · simp only [Sem.run_bind, Sem.run_pure, Result.andThen_ok, h2]
  · obtain ⟨r, cv, h0, h1, h2⟩ := fin (es := es) (ents_of (by simpa using hsz) fun i x y hi => by
      obtain ⟨e, g1, g2⟩ := hents i x y hi
      exact ⟨e, by simpa using g1, g2⟩)
    refine ⟨cv, h1, ?_⟩
    simp only [Instr.lookup, Sem.run_bind, run_underlying hu, Result.andThen_ok, Sem.run_pure, MapKept.run_getObj_map hb, hck, h0]
    rcases h2 with ⟨rfl, h2, rfl⟩ | ⟨i, rfl, h2⟩
    · simp only [Sem.run_bind, run_zeroValue' tok hV, Result.andThen_ok, Sem.run_pure, h2]; rfl
    · simp only [Sem.run_bind, Sem.run_pure, Result.andThen_ok, h2]
theorem mapQ_rel {w : World} {I : CS} {s : St} {hr : Nat → HR} {a : Act} (R : StRel w I s hr a.tmps) {o : Operand} {l : (k : Ty) × (v : Ty) × List (k.den × v.den)} (h : (s.mapQ o).Is l) : MapV w I l.1 l.2.1 l.2.2 (a.eval o) := by
  simp only [St.mapQ, Q.is_bind', atQ_is] at h
  obtain ⟨v, hv, h⟩ := h
  have hr0 := at_rel R hv
  cases v <;> simp only [Q.is_fail] at h
  · rw [Q.is_of] at h
    have := asMap_is h
    subst this
    obtain ⟨cs, e1, c⟩ := hr0
    have := locSl ((RepO_flat (fp := non)).2 c) rfl e1
    subst this
    rcases map_hdr ((RepO_flat (fp := non)).2 c) rfl with ⟨h1, h2⟩ | ⟨b, h1, h2⟩
    · exact .inl ⟨by simpa using h1, h2⟩
    · exact .inr ⟨b, by simpa using h1, h2⟩
  · simp only [Q.is_bind', look_is, Q.is_must, Q.is_of] at h
    obtain ⟨⟨sh, tv⟩, ⟨H, hH, hl⟩, _, hw, h⟩ := h
    have := asMap_is h
    simp only at this
    subst this
    obtain ⟨ok, loc, csp, t, l1, ty', rr⟩ := hr0 H hH
    obtain ⟨fpp, rep, sf⟩ := look_home R hH ok hl l1
    have := look_type2 hl ty'
    subst this
    have := locSl rep rfl rr
    subst this
    rcases map_hdr rep hw with ⟨h1, h2⟩ | ⟨b, h1, h2⟩
    · exact .inl ⟨by simpa using h1, h2⟩
    · exact .inr ⟨b, by simpa using h1, h2⟩
theorem op_lookup (tok : TyOK P ty) {o : Oper} {a : Act} {w : World} {I : CS} {s s' : St} {hr : Nat → HR} {d : Nat} {T : TypeId} {m x : Operand} {ok : Bool} (R : StRel w I s hr a.tmps) (hd : d < s.n) (ho : o.op = .lookup T m x ok) (hq : (lookupQ ty s d T m x ok).Is s') : Done P o a w I s hr d s' := by
  simp only [lookupQ, Q.is_bind', isT_is, Q.is_must, Q.is_of, Bool.and_eq_true] at hq
  obtain ⟨l, hl, _, hT, _, ⟨hc, hkq⟩, v, hv, y, hy, hq⟩ := hq
  have := TV.as_some.1 hy
  subst this
  obtain ⟨cx, e1, rx⟩ := pv_rel R hv
  simp only at e1 rx
  obtain ⟨cv, rv, hrun⟩ := run_lookup' tok hkq hT hc rx (mapQ_rel R hl) ok
  rw [← e1] at hrun
  cases ok with
  | false =>
    simp only [cond_false, Q.is_pure] at hq
    subst hq
    refine done_pure R hd (v := toVal l.2.1 cv) ?_ ⟨cv, rfl, rv⟩
    simp only [execOp, ho, Sem.run_bind, hrun, Result.andThen_ok, Sem.run_pure]
    simp
  | true =>
    simp only [cond_true, Q.is_pure] at hq
    subst hq
    refine done_pure R hd (v := .tuple #[toVal l.2.1 cv, .bool (getM l.1 l.2.1 l.2.2 y).isSome]) ?_ ⟨[_, _], rfl, ⟨cv, rfl, rv⟩, ⟨[_], by rw [toVal_one rfl], by simp only [RepC]; rfl⟩, trivial⟩
    simp only [execOp, ho, Sem.run_bind, hrun, Result.andThen_ok, Sem.run_pure]
    simp
theorem fr_alloc (T : CS) (w : World) (o : Obj) : Fr T w (w.alloc o) := by
  have old : ∀ {b : Nat}, b < w.heap.size → (w.alloc o).heap[b]? = w.heap[b]? := fun {b} hb => (MapKept.heap_alloc w o).2 b hb
  refine ⟨rfl, rfl, rfl, ?_, fun b hb _ => old hb, fun b o' hb _ => ⟨by simp only [World.cell?, old hb], by simp only [World.frozen?, old hb], fun es c e => by rw [old hb]; exact e⟩⟩
  show w.heap.size ≤ (w.heap.push o).size
  simp
theorem op_makeMap (tok : TyOK P ty) {o : Oper} {a : Act} {w : World} {I : CS} {s s' : St} {hr : Nat → HR} {d T0 : Nat} {T : TypeId} (R : StRel w I s hr a.tmps) (hd : d < s.n) (ho : o.op = .makeMap T none) (hq : (op1Q ty s d T0 (.makeMap T none)).Is s') : Done P o a w I s hr d s' := by
  simp only [op1Q, Q.is_bind', Q.is_of, Q.is_pure, Option.bind_eq_some_iff] at hq
  obtain ⟨l, ⟨t, hT, hl⟩, rfl⟩ := hq
  have hrun : (execOp a.eval o).run P w = .ok (.value (.map (some w.heap.size))) (w.alloc (.map #[] 0)) := by
    simp [execOp, ho, Instr.makeMap, newObj, Sem.run]
  refine ⟨_, _, I, _, hrun, new_home' R (fr_alloc non w _) hd (H := ⟨.mapO, .mp l.1 l.2.1, [], false, false, true⟩) (cs := [.map (some w.heap.size)]) (fp := fun b _ => b = w.heap.size) ?_ (fun b o x => .inr (by show w.heap.size ≤ b; omega)) (fun b o x => ?_) (fun _ _ h => h.elim) (fun _ _ h => h.elim) rfl ?_ (.refl ..) (fun _ _ h => h.elim)⟩
  · simp only [HRel, RepO]
    exact ⟨w.heap.size, rfl, fun _ => rfl, #[], 0, (MapKept.heap_alloc w _).1, rfl, fun i x y h => by simp at h⟩
  · show b < (w.heap.push _).size
    simp; omega
  · have := ev_val (w := w.alloc (.map #[] 0)) (I := I) (hm := (s.newH d ⟨.mapO, .mp l.1 l.2.1, [], false, false, true⟩).home?) (hr := upd hr d ⟨[.map (some w.heap.size)], fun b _ => b = w.heap.size⟩) (d := d) (cs := [.map (some w.heap.size)]) (fp := fun b _ => b = w.heap.size) (by rw [home?_newH, if_pos rfl]) rfl (by rw [upd_same])
    rwa [toVal_one rfl] at this

/-- the world with another map in a block -/
def World.mapped (w : World) (b : Nat) (es : Array MapEntry) (clock : Nat) : World := { w with heap := w.heap.setIfInBounds b (.map es clock) }
theorem mapped_at {w : World} {b : Nat} {es es' : Array MapEntry} {clock clock' : Nat} (hb : w.heap[b]? = some (.map es clock)) : (World.mapped w b es' clock').heap[b]? = some (.map es' clock') ∧ ∀ k, k ≠ b → (World.mapped w b es' clock').heap[k]? = w.heap[k]? := MapKept.heap_set hb
theorem mapped_same {w : World} {b : Nat} {es es' : Array MapEntry} {clock clock' : Nat} (hb : w.heap[b]? = some (.map es clock)) {k : Nat} (hk : k ≠ b) (o : Nat) : Same w (World.mapped w b es' clock') k o := by
  have := (mapped_at (es' := es') (clock' := clock') hb).2 k hk
  exact ⟨by simp only [World.cell?, this], by simp only [World.frozen?, this], fun es c e => by rw [this]; exact e⟩
theorem mapped_fr {w : World} {b : Nat} {es es' : Array MapEntry} {clock clock' : Nat} {T : CS} (hb : w.heap[b]? = some (.map es clock)) (hT : ∀ o, T b o) : Fr T w (World.mapped w b es' clock') := by
  have hne : ∀ k o, ¬ T k o → k ≠ b := fun k o n e => n (e ▸ hT o)
  refine ⟨rfl, rfl, rfl, ?_, fun k _ n => (mapped_at hb).2 k (hne k 0 (n 0)), fun k o _ n => mapped_same hb (hne k o n) o⟩
  simp [World.mapped]
/-- a map at a home's place is changed -/
theorem put_map {w : World} {I : CS} {s s' : St} {hr : Nat → HR} {tmps : Array Value} {h : Nat} {p : Path} {k v : Ty} {l l' : List (k.den × v.den)} {loc : Option (Nat × Nat)} {csp : List Value} {S : CS} {H : Home}
    (R : StRel w I s hr tmps) (hq : (s.putP h p .mapO ⟨.mp k v, l'⟩).Is s') (hH : s.home? h = some H) (ok : okP H.t H.x p) (hl : (lookQ H.t H.x H.sh p).Is (.mapO, ⟨.mp k v, l⟩)) (hloc : LocH w S H (hr h).cs p (loc, csp)) :
    ∃ b, csp = [.map (some b)] ∧ MapAt w (fun x u => ∃ c, u = toVal k c ∧ RepC w I k x c) (fun y u => ∃ c, u = toVal v c ∧ RepC w I v y c) l b ∧
      ∀ es' clock', es'.size = l'.length → (∀ (i : Nat) x y, l'[i]? = some (x, y) → ∃ e : MapEntry, es'[i]? = some e ∧ (∃ c, e.key = toVal k c ∧ RepC w I k x c) ∧ (∃ c, e.val = toVal v c ∧ RepC w I v y c)) →
        ∃ hr', StRel (World.mapped w b es' clock') I s' hr' tmps ∧ Trans w I s.home? hr (World.mapped w b es' clock') I s'.home? hr' := by
  simp only [St.putP, Q.is_bind', homeQ_is, Q.is_pure] at hq
  obtain ⟨H0, hH0, q, hp, rfl⟩ := hq
  rw [hH] at hH0; cases hH0
  obtain ⟨Rr, Rs, Rn⟩ := R
  have R : StRel w I s hr tmps := ⟨Rr, Rs, Rn⟩
  obtain ⟨loc', csp', fpp, fr, k1, k2, k3, k4, k5, k6, k7⟩ := focusH (Rr.home h H hH) ok hl (putQ_wr hp)
  cases LocH_det hloc k1
  have k2' := k2
  simp only [RepO] at k2
  obtain ⟨b, ec, hb, m⟩ := k2
  refine ⟨b, ec, m, fun es' clock' hsz hents => ?_⟩
  obtain ⟨es, clock, hbk, _, _⟩ := m
  have hT : ∀ o, (hr h).fp b o := fun o => k3 b o (hb o)
  have F : Fr (hr h).fp w (World.mapped w b es' clock') := mapped_fr hbk hT
  have kI : Keep w (World.mapped w b es' clock') I := F.keep Rr.old (Rr.apart h H hH).symm
  have kfr : Keep w (World.mapped w b es' clock') fr := fun b' o' x => mapped_same hbk (fun e => k5 b' o' (by rw [e]; exact hb o') x) o'
  have rep' : RepO (World.mapped w b es' clock') I (.mp k v) .mapO l' csp fpp := by
    simp only [RepO]
    refine ⟨b, ec, hb, es', clock', (mapped_at hbk).1, hsz, fun i x y hi => ?_⟩
    obtain ⟨e, g1, ⟨c1, g2, g3⟩, ⟨c2, g4, g5⟩⟩ := hents i x y hi
    exact ⟨e, g1, ⟨c1, g2, RepC_keep (.refl _) kI g3⟩, ⟨c2, g4, RepC_keep (.refl _) kI g5⟩⟩
  obtain ⟨fp', m1, m2⟩ := k7 _ I .mapO l' csp fpp q true hp kI (.refl _) rfl rep' k5 (fun _ => kfr) (fun hd B O hbo => by
    obtain ⟨B', O', e1, e2⟩ := k6 hd
    rw [e1] at hbo; cases hbo
    refine ⟨fun b' o' x _ => kfr b' o' x, fun j val hj => ?_, fun j hj => ?_⟩
    · have hjl := (List.getElem?_eq_some_iff.1 hj).1
      rw [(kfr _ _ (e2 j hjl).2.2).1, (e2 j hjl).1]; exact hj
    · rw [(kfr _ _ (e2 j hj).2.2).2.1]; exact (e2 j hj).2.1)
  have hspl : splH H (hr h).cs p csp = (hr h).cs := by
    unfold splH
    cases hbx : H.bx with
    | true => rfl
    | false =>
      simp only
      have hl0 := Rr.home h H hH
      unfold HRel at hl0
      rw [hbx] at hl0
      have hlen := RepO_len hl0
      unfold LocH at k1
      rw [hbx] at k1
      cases hd : deref H.t p with
      | true => exact spl_deref _ ok hd hlen
      | false =>
        obtain ⟨d, g1, g2, g3, g4⟩ := loc_inline ok hd hlen (LocIn_locP k1)
        obtain ⟨n1, n2⟩ := g4 csp rfl
        apply List.ext_getElem?
        intro j
        rw [n2 j]
        split
        · rename_i hj
          rw [g3 (j - d) (by omega)]; congr 1; omega
        · rfl
  rw [hspl] at m1
  have sub : Sub fp' (hr h).fp := fun b o x => (m2 b o x).elim (k4 b o) (k3 b o)
  have hsize : (World.mapped w b es' clock').heap.size = w.heap.size := by simp [World.mapped]
  obtain ⟨g1, g2, g3⟩ := modify R (F := non) (H' := { H with sh := q.1, x := q.2, d := true }) hH F (.refl _) (fun _ _ x => .inl x) rfl rfl rfl m1 (fun b o x => .inl (sub b o x)) (fun _ _ _ _ _ _ x => x.elim)
    (fun b o x y => Rr.apart h H hH b o (sub b o x) y) (fun b o x => hsize ▸ Rr.old b o x) (fun b o x => hsize ▸ Rr.oldf h H hH b o (sub b o x))
  exact ⟨_, g1, F.sub fun b o x => ⟨h, H, hH, x⟩, .refl _, fun _ _ x => .inl x, fun b o x => (g2 b o x).elim .inl fun x => x.elim, g3⟩
theorem op_mapUpd (tok : TyOK P ty) {o : Oper} {a : Act} {w : World} {I : CS} {s s' : St} {hr : Nat → HR} {T : TypeId} {m x y : Operand} (R : StRel w I s hr a.tmps) (ho : o.op = .mapUpdate T m x y) (hq : (mapUpdQ ty s T m x y).Is s') : DoneS P o a w I s hr s' := by
  simp only [mapUpdQ, Q.is_bind', atQ_is] at hq
  obtain ⟨v, hv, hq⟩ := hq
  have hr0 := at_rel R hv
  cases v <;> simp only [Q.is_fail] at hq
  rename_i h p
  simp only [Q.is_bind', look_is, isT_is, Q.is_must, Q.is_of, Bool.and_eq_true] at hq
  obtain ⟨⟨sh, tv⟩, ⟨H, hH, hl⟩, _, hsh, l, hm, _, hT, _, ⟨hc, hkq⟩, kv, hkv, kx, hkx, xv, hxv, yx, hyx, hp⟩ := hq
  have := asMap_is hm
  simp only at this
  subst this
  have hsh := eqSh_eq hsh
  simp only at hsh
  subst hsh
  cases TV.as_some.1 hkx
  cases TV.as_some.1 hyx
  obtain ⟨k, v, l⟩ := l
  simp only at hT hc hkv hxv hp hl
  obtain ⟨ok, loc, csp, t, l1, ty', rr⟩ := hr0 H hH
  have := look_type2 hl ty'
  simp only at this
  subst this
  obtain ⟨b, ec, ⟨es, clock, hb, hsz, hents⟩, fin⟩ := put_map R hp hH ok hl l1
  subst ec
  rw [toVal_one rfl] at rr
  obtain ⟨cx, e1, rx⟩ := pv_rel R hkv
  obtain ⟨cy, e2, ry⟩ := pv_rel R hxv
  simp only at e1 rx e2 ry
  obtain ⟨K, V, hu, hK, hV⟩ : ∃ K V, P.underlying T = some (.map K V) ∧ ty.ty K = some k ∧ ty.ty V = some v := by have := tok.desc T _ hT; simpa only [FitD] using this
  have hck := (tok.keyq hkq K k hK hc w I _ cx rx).2 false
  have he : Ents w I k v l es.toList := ents_of (by simpa using hsz) fun i x y hi => by
    obtain ⟨e, g1, g2⟩ := hents i x y hi
    exact ⟨e, by simpa using g1, g2⟩
  obtain ⟨r, h0, hf⟩ := run_findKey' tok hkq hK hc rx he
  rcases hf with ⟨h1, h2, h3⟩ | ⟨j, e, x', y', h1, h2, h3, h4, h5, h6⟩
  · subst h1
    rw [h3] at fin
    obtain ⟨hr', R', T'⟩ := fin (es.push ⟨toVal k cx, toVal v cy, clock⟩) (clock + 1) (by simp [hsz]) fun i x y hi => by
      rw [List.getElem?_append] at hi
      split at hi
      · rename_i hlt
        obtain ⟨e, g1, g2⟩ := hents i x y hi
        exact ⟨e, by rw [Array.getElem?_push, if_neg (by omega)]; exact g1, g2⟩
      · rename_i hlt
        have hi0 : i = l.length := by
          have := (List.getElem?_eq_some_iff.1 hi).1
          simp at this; omega
        subst hi0
        simp at hi
        obtain ⟨rfl, rfl⟩ := hi
        exact ⟨_, by rw [Array.getElem?_push, if_pos (by omega)], ⟨cx, rfl, rx⟩, ⟨cy, rfl, ry⟩⟩
    refine ⟨_, I, hr', ?_, R', T'⟩
    simp [execOp, ho, rr, e1, e2, Instr.mapUpdate, run_underlying hu, MapKept.run_getObj_map hb, hck, h0, MapKept.run_setObj_map _ hb, World.mapped]
  · subst h1
    obtain ⟨e', g1, ⟨c', g2, g3⟩, _⟩ := (ents_get he).2 j x' y' h3
    rw [h2] at g1; cases g1
    have hcc : c' = cx := (eqv_cells hc rx g3 h4).symm
    subst hcc
    have hj : es[j]? = some e := by simpa using h2
    rw [h6] at fin
    obtain ⟨hr', R', T'⟩ := fin (es.modify j fun e => { e with key := toVal k c', val := toVal v cy }) clock (by simp [hsz]) fun i x y hi => by
      rw [List.getElem?_set] at hi
      split at hi
      · rename_i hij
        subst hij
        split at hi
        · simp at hi
          obtain ⟨rfl, rfl⟩ := hi
          exact ⟨_, by rw [Array.getElem?_modify, if_pos rfl, hj]; rfl, ⟨c', rfl, rx⟩, ⟨cy, rfl, ry⟩⟩
        · cases hi
      · rename_i hij
        obtain ⟨e, g1, g2⟩ := hents i x y hi
        exact ⟨e, by rw [Array.getElem?_modify, if_neg hij]; exact g1, g2⟩
    refine ⟨_, I, hr', ?_, R', T'⟩
    have hks := key_stays (P := P) hc rx
    simp [execOp, ho, rr, e1, e2, Instr.mapUpdate, run_underlying hu, MapKept.run_getObj_map hb, hck, h0, hj, g2, hks, MapKept.run_setObj_map _ hb, World.mapped]
end Go.VM
/- Soundness, part 24: what stays; all operations but calls. -/
namespace Go.VM
variable {P : Program} {ty : Types}

/-- as many slots; homes without the mark are as they were -/
structure Mild (s s' : St) : Prop where
  n : s'.n = s.n
  keep : ∀ h H', s'.home? h = some H' → H'.d = false → s.home? h = some H'
theorem Mild.refl (s : St) : Mild s s := ⟨rfl, fun _ _ h _ => h⟩
theorem Mild.trans {s s1 s2 : St} (h : Mild s s1) (k : Mild s1 s2) : Mild s s2 := ⟨k.n.trans h.n, fun g H' e d => h.keep g H' (k.keep g H' e d) d⟩
theorem Mild.set {s s' : St} (h : Mild s s') (n : Nat) (e : EV) : Mild s (s'.set n e) := ⟨h.n, h.keep⟩
theorem Mild.mapA {s s' : St} (h : Mild s s') (f : At → At) : Mild s (s'.mapA f) := ⟨h.n, h.keep⟩
theorem Mild.setH {s s' : St} (h : Mild s s') (g : Nat) {H : Option Home} (hd : ∀ H', H = some H' → H'.d = true) : Mild s (s'.setH g H) := ⟨h.n, fun k H' e d => by
  rw [home?_setH] at e
  split at e
  · rw [hd H' e] at d; cases d
  · exact h.keep k H' e d⟩
theorem Mild.newH {s s' : St} (h : Mild s s') (g : Nat) {H : Home} (hd : H.d = true) : Mild s (s'.newH g H) := (h.mapA _).setH g fun H' e => by cases e; exact hd
theorem take_mild {s : St} {h : Nat} {p : Path} {r : Home × St} (hq : (s.take h p).Is r) : Mild s r.2 ∧ r.1.d = true := by
  simp only [St.take, Q.is_bind', Q.is_must] at hq
  obtain ⟨H, _, q, _, _, _, hq⟩ := hq
  cases hc : (p.isEmpty && !H.bx) with
  | true => simp only [hc, cond_true, Q.is_bind', Q.is_must, Q.is_pure] at hq; obtain ⟨_, _, rfl⟩ := hq; exact ⟨(Mild.refl s).setH h (fun _ e => by cases e), rfl⟩
  | false => simp only [hc, cond_false, Q.is_bind', Q.is_pure] at hq; obtain ⟨_, _, rfl⟩ := hq; exact ⟨((Mild.refl s).setH h (fun _ e => by cases e; rfl)).mapA _, rfl⟩
theorem freeze_mild {s : St} {h : Nat} {p : Path} {r : TV × St} (hq : (s.freeze h p).Is r) : Mild s r.2 := by
  simp only [St.freeze, Q.is_bind', Q.is_must, Q.is_of, Q.is_pure] at hq
  obtain ⟨_, _, _, _, _, _, _, _, _, _, rfl⟩ := hq
  exact (Mild.refl s).setH h (fun _ e => by cases e; rfl)
theorem putP_mild {s s' : St} {h : Nat} {p : Path} {n : Sh} {v : TV} (hq : (s.putP h p n v).Is s') : Mild s s' := by
  simp only [St.putP, Q.is_bind', Q.is_pure] at hq
  obtain ⟨_, _, _, _, rfl⟩ := hq
  exact ((Mild.refl s).setH h (fun _ e => by cases e; rfl)).mapA _
theorem takeSl_mild {s : St} {o : Operand} {e : Ty} {r : Sh × List e.den × St} (hq : (s.takeSl o e).Is r) : Mild s r.2.2 := by
  simp only [St.takeSl, Q.is_bind', atQ_is] at hq
  obtain ⟨x, hx, hq⟩ := hq
  cases x <;> simp only [Q.is_fail, Q.is_ret] at hq
  · subst hq; exact .refl s
  · simp only [Q.is_bind', Q.is_of, Q.is_pure] at hq
    obtain ⟨_, ht, _, _, _, _, rfl⟩ := hq; exact (take_mild ht).1
  · simp only [Q.is_bind', Q.is_of, Q.is_pure] at hq
    obtain ⟨_, ht, _, _, _, _, rfl⟩ := hq; exact (take_mild ht).1
theorem giveQ_mild {s : St} {o : Operand} {t : Ty} {flat : Bool} {r : Sh × t.den × St} (hq : (s.giveQ o t flat).Is r) : Mild s r.2.2 := by
  simp only [St.giveQ, Q.is_bind', atQ_is] at hq
  obtain ⟨x, hx, hq⟩ := hq
  cases x <;> simp only [Q.is_fail] at hq
  · simp only [Q.is_bind', Q.is_of, Q.is_pure] at hq
    obtain ⟨_, _, rfl⟩ := hq; exact .refl s
  · simp only [Q.is_bind', Q.is_of, Q.is_pure] at hq
    obtain ⟨_, _, rfl⟩ := hq; exact .refl s
  · cases flat
    · simp only [cond_false, Q.is_bind', Q.is_of, Q.is_pure] at hq
      obtain ⟨_, ht, _, _, rfl⟩ := hq; exact (take_mild ht).1
    · simp only [cond_true, Q.is_bind', Q.is_of, Q.is_pure] at hq
      obtain ⟨_, ht, _, _, rfl⟩ := hq; exact freeze_mild ht
  · cases flat
    · simp only [cond_false, Q.is_bind', Q.is_of, Q.is_pure] at hq
      obtain ⟨_, ht, _, _, _, _, rfl⟩ := hq; exact (take_mild ht).1
    · simp only [cond_true, Q.is_bind', Q.is_of, Q.is_pure] at hq
      obtain ⟨_, ht, _, _, _, _, rfl⟩ := hq; exact freeze_mild ht
theorem giveAll_mild : ∀ {parts : List (Nat × Operand)} {s : St} {t : Ty} {x : t.den} {sh : Sh} {path : Nat → Path} {r : Sh × t.den × St}, (s.giveAll sh t x path parts).Is r → Mild s r.2.2 := by
  intro parts
  induction parts with
  | nil => intro s t x sh path r hq; simp only [St.giveAll, Q.is_ret] at hq; subst hq; exact .refl s
  | cons po rest ih =>
    intro s t x sh path r hq
    obtain ⟨i, o⟩ := po
    simp only [St.giveAll, Q.is_bind'] at hq
    obtain ⟨_, _, g, hg, _, _, hq⟩ := hq
    exact (giveQ_mild hg).trans (ih hq)
theorem giveEls_mild : ∀ {parts : List (Nat × Operand)} {s : St} {e : Ty} {flat : Bool} {sh : Option Sh} {l : List e.den} {r : Option Sh × List e.den × St}, (s.giveEls e flat sh l parts).Is r → Mild s r.2.2 := by
  intro parts
  induction parts with
  | nil => intro s e flat sh l r hq; simp only [St.giveEls, Q.is_ret] at hq; subst hq; exact .refl s
  | cons po rest ih =>
    intro s e flat sh l r hq
    obtain ⟨i, o⟩ := po
    simp only [St.giveEls, Q.is_bind'] at hq
    obtain ⟨g, hg, hq⟩ := hq
    have : (g.2.2.giveEls e flat (some g.1) (l.set i g.2.1) rest).Is r := by
      cases sh with
      | none => simp only [Q.is_bind'] at hq; obtain ⟨_, _, _, _, hq⟩ := hq; exact hq
      | some u => simp only [Q.is_bind'] at hq; obtain ⟨_, _, _, _, hq⟩ := hq; exact hq
    exact (giveQ_mild hg).trans (ih this)
theorem lay_mild (s : St) (d : Nat) (sh : Sh) (t : Ty) (x : t.den) : Mild s (s.lay d sh t x) := by
  have gen : Mild s ((s.newH d ⟨sh, t, x, false, false, true⟩).set d (.at (.rf d []))) := ((Mild.refl s).newH d rfl).set d _
  cases sh <;> first | exact (Mild.refl s).set d _ | exact gen

theorem assignQ_mild {s s' : St} {d : Nat} {T : TypeId} {e : EV} (hq : (assignQ ty s d T e).Is s') : Mild s s' := by
  have plain : ∀ e, Mild s (s.set d e) := fun e => (Mild.refl s).set d e
  cases e with
  | tup l => simp only [assignQ, Q.is_ret] at hq; subst hq; exact plain _
  | fn f l => simp only [assignQ, Q.is_ret] at hq; subst hq; exact plain _
  | «at» v =>
    cases v with
    | nils =>
      simp only [assignQ] at hq
      split at hq
      · rw [Q.is_ret] at hq; subst hq; exact ((Mild.refl s).newH d rfl).set d _
      · simp only [Q.is_fail] at hq
    | rf h p =>
      simp only [assignQ] at hq
      cases hb : Nat.beq h d with
      | true => rw [hb] at hq; simp only [cond_true, Q.is_ret] at hq; subst hq; exact plain _
      | false =>
        rw [hb] at hq
        simp only [cond_false] at hq
        cases p with
        | cons st p => simp only [Q.is_ret] at hq; subst hq; exact plain _
        | nil =>
          simp only [Q.is_bind', homeQ_is] at hq
          obtain ⟨H, hH, hq⟩ := hq
          cases hio : (H.io || H.bx) with
          | true => rw [hio] at hq; simp only [cond_true, Q.is_ret] at hq; subst hq; exact plain _
          | false =>
            rw [hio] at hq
            simp only [cond_false, Q.is_ret] at hq
            subst hq
            exact ((((Mild.refl s).mapA _).mapA _).setH h (fun _ e => by cases e)).setH d (fun _ e => by cases e; rfl) |>.set d _
    | rg h p lo hi =>
      simp only [assignQ] at hq
      split at hq
      · rename_i h' heq
        cases hb : Nat.beq h h' with
        | false => rw [hb] at hq; simp only [cond_false, Q.is_ret] at hq; subst hq; exact plain _
        | true =>
          rw [hb] at hq
          simp only [cond_true, Q.is_bind', Q.is_of, Q.is_pure] at hq
          obtain ⟨r, ht, y, hy, rfl⟩ := hq
          obtain ⟨m, hd⟩ := take_mild ht
          exact (m.newH d (H := { r.1 with x := y }) hd).set d _
      · rw [Q.is_ret] at hq; subst hq; exact plain _
    | _ => simp only [assignQ, Q.is_ret] at hq; subst hq; exact plain _

theorem storeQ_mild {s s' : St} {T : TypeId} {x y : Operand} (hq : (storeQ ty s T x y).Is s') : Mild s s' := by
  simp only [storeQ, Q.is_bind', atQ_is] at hq
  obtain ⟨v, hv, hq⟩ := hq
  cases v <;> simp only [Q.is_fail] at hq
  rename_i h p
  simp only [Q.is_bind', look_is, isT_is] at hq
  obtain ⟨⟨sh0, tv⟩, ⟨H, hH, hl⟩, _, hT, hq⟩ := hq
  split at hq
  · simp only [Q.is_bind', Q.is_of] at hq
    obtain ⟨_, _, r, ht, yv, hy, hp⟩ := hq
    exact (take_mild ht).1.trans (putP_mild hp)
  · simp only [Q.is_bind'] at hq
    obtain ⟨r, hg, s2, hs2, hp⟩ := hq
    refine (giveQ_mild hg).trans (.trans ?_ (putP_mild hp))
    cases hc : (Path.hasIdx p && r.1.isFlat && !sh0.isFlat) with
    | false => simp only [hc, cond_false, Q.is_ret] at hs2; subst hs2; exact .refl _
    | true =>
      simp only [hc, cond_true, Q.is_bind', Q.is_pure] at hs2
      obtain ⟨q, hf, rfl⟩ := hs2
      exact freeze_mild hf
theorem appendQ_mild {s s' : St} {d : Nat} {e : Ty} {x y : Operand} (hq : (appendQ s d e x y).Is s') : Mild s s' := by
  simp only [appendQ, Q.is_bind', Q.is_must, Q.is_req, Q.is_pure] at hq
  obtain ⟨dx, hdx, g, hg, q, hq2, _, _, _, _, _, _, rfl⟩ := hq
  have m1 : Mild s g.2.2 := by
    cases dx with
    | true => simp only [cond_true] at hg; exact takeSl_mild hg
    | false => simp only [cond_false, Q.is_bind', Q.is_pure] at hg; obtain ⟨_, _, rfl⟩ := hg; exact .refl s
  exact ((m1.trans (takeSl_mild hq2)).newH d rfl).set d _
theorem loadQ_mild {s s' : St} {d : Nat} {T : TypeId} {x : Operand} (hq : (loadQ ty s d T x).Is s') : Mild s s' := by
  simp only [loadQ, Q.is_bind', atQ_is] at hq
  obtain ⟨v, hv, hq⟩ := hq
  cases v <;> simp only [Q.is_fail] at hq
  · simp only [Q.is_bind', Q.is_pure] at hq
    obtain ⟨_, _, rfl⟩ := hq; exact (Mild.refl s).set d _
  · simp only [Q.is_bind'] at hq
    obtain ⟨r, _, _, _, hq⟩ := hq
    split at hq <;> simp only [Q.is_ret, Q.is_fail, Q.is_bind', Q.is_pure] at hq
    · subst hq; exact (Mild.refl s).set d _
    · subst hq; exact (Mild.refl s).set d _
    · subst hq; exact (Mild.refl s).set d _
    · subst hq; exact (Mild.refl s).set d _
    · obtain ⟨q, hf, rfl⟩ := hq; exact (freeze_mild hf).set d _
theorem lookupQ_mild {s s' : St} {d : Nat} {T : TypeId} {m x : Operand} {ok : Bool} (hq : (lookupQ ty s d T m x ok).Is s') : Mild s s' := by
  simp only [lookupQ, Q.is_bind'] at hq
  obtain ⟨_, _, _, _, _, _, _, _, _, _, hq⟩ := hq
  cases ok <;> simp only [cond_true, cond_false, Q.is_pure] at hq <;> subst hq <;> exact (Mild.refl s).set d _
theorem mapUpdQ_mild {s s' : St} {T : TypeId} {m x y : Operand} (hq : (mapUpdQ ty s T m x y).Is s') : Mild s s' := by
  simp only [mapUpdQ, Q.is_bind', atQ_is] at hq
  obtain ⟨v, hv, hq⟩ := hq
  cases v <;> simp only [Q.is_fail] at hq
  simp only [Q.is_bind'] at hq
  obtain ⟨_, _, _, _, _, _, _, _, _, _, _, _, _, _, _, _, _, _, hp⟩ := hq
  exact putP_mild hp
theorem indexAddrQ_mild {s s' : St} {d : Nat} {T : TypeId} {x i : Operand} (hq : (indexAddrQ ty s d T x i).Is s') : Mild s s' := by
  simp only [indexAddrQ, Q.is_bind', atQ_is] at hq
  obtain ⟨n, hn, v, hv, hq⟩ := hq
  cases v <;> simp only [Q.is_fail] at hq <;> simp only [Q.is_bind', Q.is_pure] at hq
  all_goals first
    | (obtain ⟨_, _, _, _, _, _, rfl⟩ := hq; exact (Mild.refl s).set d _)
    | (obtain ⟨_, _, _, _, _, _, _, _, rfl⟩ := hq; exact (Mild.refl s).set d _)
theorem sliceQ_mild {s s' : St} {d : Nat} {T : TypeId} {x : Operand} {lo hi : Option Operand} (hq : (sliceQ ty s d T x lo hi).Is s') : Mild s s' := by
  simp only [sliceQ, Q.is_bind', atQ_is] at hq
  obtain ⟨v, hv, hq⟩ := hq
  cases v <;> simp only [Q.is_fail] at hq
  · split at hq <;> simp only [Q.is_bind', Q.is_pure] at hq
    · obtain ⟨_, _, _, _, rfl⟩ := hq; exact (Mild.refl s).set d _
    · obtain ⟨_, _, _, _, _, _, rfl⟩ := hq; exact (Mild.refl s).set d _
  · simp only [Q.is_bind', Q.is_pure] at hq
    obtain ⟨_, _, _, _, _, _, rfl⟩ := hq; exact (Mild.refl s).set d _
  · simp only [Q.is_bind', Q.is_pure] at hq
    obtain ⟨_, _, _, _, _, _, rfl⟩ := hq; exact (Mild.refl s).set d _

theorem op1Q_mild {s s' : St} {d : Nat} {T0 : TypeId} {op : Op} (hq : (op1Q ty s d T0 op).Is s') : Mild s s' := by
  have st : ∀ e, Mild s (s.set d e) := fun e => (Mild.refl s).set d e
  cases op <;> simp only [op1Q, Q.is_fail] at hq
  case move x => rw [Q.is_ret] at hq; subst hq; exact st _
  case assign x => exact assignQ_mild hq
  case pick =>
    simp only [Q.is_bind', Q.is_bi, Q.is_ret] at hq
    obtain ⟨_, _, hq⟩ := hq
    rcases hq with ⟨_, rfl⟩ | ⟨_, rfl⟩ <;> exact st _
  case alloc => simp only [Q.is_bind', Q.is_pure] at hq; obtain ⟨_, _, rfl⟩ := hq; exact ((Mild.refl s).newH d rfl).set d _
  case box => simp only [Q.is_bind', Q.is_pure] at hq; obtain ⟨_, _, g, hg, rfl⟩ := hq; exact ((giveQ_mild hg).newH d rfl).set d _
  case build =>
    simp only [Q.is_bind', Q.is_pure] at hq
    obtain ⟨_, _, _, _, g, hg, rfl⟩ := hq
    exact (giveAll_mild hg).trans (lay_mild ..)
  case buildSlice =>
    simp only [Q.is_bind', Q.is_pure] at hq
    obtain ⟨_, _, _, _, g, hg, rfl⟩ := hq
    exact ((giveEls_mild hg).newH d rfl).set d _
  case load => exact loadQ_mild hq
  case nilCheck x =>
    split at hq <;> simp only [Q.is_bind', Q.is_pure, Q.is_ret, Q.is_fail] at hq
    · obtain ⟨_, _, rfl⟩ := hq; exact st _
    · subst hq; exact st _
    · subst hq; exact st _
  case binOp => simp only [Q.is_bind', Q.is_pure] at hq; obtain ⟨_, _, _, _, _, _, rfl⟩ := hq; exact st _
  case unOp => simp only [Q.is_bind', Q.is_pure] at hq; obtain ⟨_, _, _, _, rfl⟩ := hq; exact st _
  case convert => simp only [Q.is_bind', Q.is_pure] at hq; obtain ⟨_, _, _, _, _, _, _, _, rfl⟩ := hq; exact st _
  case makeFunc =>
    split at hq <;> simp only [Q.is_bind', Q.is_pure, Q.is_fail] at hq
    obtain ⟨_, _, rfl⟩ := hq; exact st _
  case makeSlice => simp only [Q.is_bind', Q.is_pure] at hq; obtain ⟨_, _, _, _, _, _, _, _, rfl⟩ := hq; exact ((Mild.refl s).newH d rfl).set d _
  case slice T x lo hi mx =>
    cases mx <;> simp only [Q.is_fail] at hq
    exact sliceQ_mild hq
  case fieldAddr =>
    simp only [Q.is_bind'] at hq
    obtain ⟨v, _, hq⟩ := hq
    cases v <;> simp only [Q.is_bind', Q.is_pure, Q.is_fail] at hq
    · obtain ⟨_, _, _, _, _, _, rfl⟩ := hq; exact st _
    · obtain ⟨_, _, _, _, _, _, _, _, rfl⟩ := hq; exact st _
  case field => simp only [Q.is_bind', Q.is_pure] at hq; obtain ⟨_, _, _, _, _, _, rfl⟩ := hq; exact st _
  case indexAddr => exact indexAddrQ_mild hq
  case makeMap T r =>
    cases r <;> simp only [op1Q, Q.is_fail] at hq
    simp only [Q.is_bind', Q.is_pure] at hq; obtain ⟨_, _, rfl⟩ := hq; exact ((Mild.refl s).newH d rfl).set d _
  case lookup => exact lookupQ_mild hq
  case index =>
    simp only [Q.is_bind'] at hq
    obtain ⟨_, _, _, _, _, _, hq⟩ := hq
    split at hq <;> simp only [Q.is_bind', Q.is_pure] at hq
    · obtain ⟨_, _, rfl⟩ := hq; exact st _
    · obtain ⟨_, _, _, _, rfl⟩ := hq; exact st _
  case extract =>
    split at hq <;> simp only [Q.is_bind', Q.is_pure, Q.is_fail] at hq
    obtain ⟨_, _, rfl⟩ := hq; exact st _
theorem builtinQ_mild {s s' : St} {d : Nat} {b : Builtin} {c : Call} (hq : (builtinQ ty s d b c).Is s') : Mild s s' := by
  have st : ∀ e, Mild s (s.set d e) := fun e => (Mild.refl s).set d e
  cases b <;> simp only [builtinQ, Q.is_fail] at hq
  case append =>
    split at hq <;> simp only [Q.is_fail, Q.is_bind'] at hq
    obtain ⟨_, _, _, _, hq⟩ := hq
    exact appendQ_mild hq
  case len =>
    split at hq <;> simp only [Q.is_fail, Q.is_bind', Q.is_pure] at hq
    obtain ⟨_, _, rfl⟩ := hq
    exact st _
  case max =>
    simp only [Q.is_bind'] at hq
    obtain ⟨l, _, hq⟩ := hq
    split at hq <;> simp only [Q.is_fail, Q.is_bind', Q.is_pure] at hq
    obtain ⟨_, _, rfl⟩ := hq
    exact st _
  case min =>
    simp only [Q.is_bind'] at hq
    obtain ⟨l, _, hq⟩ := hq
    split at hq <;> simp only [Q.is_fail, Q.is_bind', Q.is_pure] at hq
    obtain ⟨_, _, rfl⟩ := hq
    exact st _

/-- every operation with a result, but the call of a function -/
theorem op1_sound (tok : TyOK P ty) {o : Oper} {a : Act} {w : World} {I : CS} {s s' : St} {hr : Nat → HR} {d : Nat} (R : StRel w I s hr a.tmps) (hd : d < s.n) (hq : (op1Q ty s d o.type o.op).Is s') : Done P o a w I s hr d s' := by
  cases ho : o.op <;> rw [ho] at hq <;> (try simp only [op1Q, Q.is_fail] at hq)
  case move x => rw [Q.is_ret] at hq; subst hq; exact op_move (s' := s) R hd (.inl ho)
  case assign x => exact op_assign tok R hd ho hq
  case pick => exact op_pick (ty := ty) (T0 := 0) R hd ho hq
  case alloc => exact op_alloc (T0 := 0) tok R hd ho hq
  case box T x => exact op_box (T0 := 0) tok R hd ho hq (op1Q_mild (ty := ty) (s := s) (s' := s') (d := d) (T0 := 0) (op := .box T x) hq).n
  case build => exact op_build (T0 := 0) tok R hd ho hq
  case buildSlice => exact op_buildSlice (T0 := 0) tok R hd ho hq
  case load => exact op_load (T0 := 0) tok R hd ho hq
  case nilCheck => exact op_nilCheck (ty := ty) (T0 := 0) R hd ho hq
  case binOp => exact op_binOp (T0 := 0) tok R hd ho hq
  case unOp => exact op_unOp (ty := ty) (T0 := 0) R hd ho hq
  case convert => exact op_convert (T0 := 0) tok R hd ho hq
  case makeFunc => exact op_makeFunc (ty := ty) (T0 := 0) R hd ho hq
  case makeSlice => exact op_makeSlice (T0 := 0) tok R hd ho hq
  case slice T x lo hi mx =>
    cases mx <;> simp only [op1Q, Q.is_fail] at hq
    exact op_slice (T0 := 0) tok R hd ho hq
  case fieldAddr => exact op_fieldAddr (T0 := 0) tok R hd ho hq
  case field => exact op_field (T0 := 0) tok R hd ho hq
  case indexAddr => exact op_indexAddr (T0 := 0) tok R hd ho hq
  case makeMap T r =>
    cases r <;> simp only [op1Q, Q.is_fail] at hq
    exact op_makeMap (T0 := 0) tok R hd ho hq
  case lookup => exact op_lookup tok R hd ho hq
  case index => exact op_index (T0 := 0) tok R hd ho hq
  case extract => exact op_extract (ty := ty) (T0 := 0) R hd ho hq
theorem builtin_sound (tok : TyOK P ty) {o : Oper} {a : Act} {w : World} {I : CS} {s s' : St} {hr : Nat → HR} {d : Nat} {c : Call} {b : Builtin} (R : StRel w I s hr a.tmps) (hd : d < s.n) (ho : o.op = .call c) (hc : c.callee = .builtin b)
    (hq : (builtinQ ty s d b c).Is s') : Done P o a w I s hr d s' := by
  cases b <;> (try simp only [builtinQ, Q.is_fail] at hq)
  case append =>
    split at hq <;> simp only [Q.is_fail, Q.is_bind', Q.is_of, Option.bind_eq_some_iff] at hq
    rename_i x y T U r ha hT
    obtain ⟨e, ⟨T', hT', he⟩, _, hU, hq⟩ := hq
    have : T' = .sl e := by cases T' <;> simp [elemOf] at he; rw [he]
    subst this
    exact op_append tok R hd ho hc ha hT hT' (isT_is.1 hU) hq
  case len =>
    split at hq <;> simp only [Q.is_fail, Q.is_bind', Q.is_pure] at hq
    rename_i x T r ha hT
    obtain ⟨n, hn, rfl⟩ := hq
    exact op_len (s' := s) tok R hd ho hc ha hT hn
  case max => exact op_minmax (ty := ty) R hd ho hc (.inl rfl) hq
  case min => exact op_minmax (ty := ty) R hd ho hc (.inr rfl) hq
end Go.VM
/- Soundness, part 25: states that tell less; templates. -/
namespace Go.VM

/-- homes of which less is told -/
def LessH (s s' : St) : Prop := ∀ h H', s'.home? h = some H' → ∃ H, s.home? h = some H ∧ H'.bx = H.bx ∧ H'.io = H.io ∧ (⟨H'.t, H'.x⟩ : TV) = ⟨H.t, H.x⟩ ∧ (H'.sh = H.sh ∨ Sh.le H.t H'.sh H.sh = true)

theorem weaken {w : World} {I : CS} {s s' : St} {hr : Nat → HR} {tmps : Array Value} (R : StRel w I s hr tmps) (hn : s'.n ≤ s.n) (hh : LessH s s')
    (hs : ∀ n, s'.get n = .at .dead ∨ s'.get n = s.get n ∨ ∀ hm hr, EvRel w I hm hr (s'.get n) (tmps.getD n undef)) :
    ∃ I' hr', StRel w I' s' hr' tmps ∧ Trans w I s.home? hr w I' s'.home? hr' := by
  obtain ⟨Rr, Rs, Rn⟩ := R
  have key : ∀ h, ∃ z fp' : CS, (Sub z (hr h).fp ∧ Sub fp' (hr h).fp ∧ Disj z fp') ∧ ∀ H', s'.home? h = some H' → HRel w (un I z) H' (hr h).cs fp' := by
    intro h
    cases e : s'.home? h with
    | none => exact ⟨non, non, ⟨fun _ _ h => h.elim, fun _ _ h => h.elim, fun _ _ h => h.elim⟩, fun H' e => by cases e⟩
    | some H' =>
      obtain ⟨H, hH, hb, hio, hx, hsh⟩ := hh h H' e
      have h0 := Rr.home h H hH
      obtain ⟨sh', t', x', bx', io', d'⟩ := H'
      obtain ⟨sh, t, x, bx, io, d⟩ := H
      cases hx
      simp only at hb hio hsh
      subst hb
      rcases hsh with rfl | hle
      · exact ⟨non, (hr h).fp, ⟨fun _ _ h => h.elim, .refl _, fun _ _ h => h.elim⟩, fun H' e => by cases e; exact HRel_keep (fun _ _ x => .inl x) (Keep.refl _ _) (Keep.refl _ _) (.refl _) h0⟩
      · have : ∃ z fp', Sub z (hr h).fp ∧ Sub fp' (hr h).fp ∧ Disj z fp' ∧ HRel w (un I z) ⟨sh', t', x', bx', io', d'⟩ (hr h).cs fp' := by
          unfold HRel at h0 ⊢
          simp only at h0 ⊢
          split at h0
          · exact RepO_le (by simpa [Sh.le] using hle) h0
          · exact RepO_le hle h0
        obtain ⟨z, fp', z1, z2, z3, z4⟩ := this
        exact ⟨z, fp', ⟨z1, z2, z3⟩, fun H' e => by cases e; exact z4⟩
  obtain ⟨z, fp, hk⟩ := skolem2 key
  let I' : CS := fun b o => I b o ∨ ∃ h H', s'.home? h = some H' ∧ (hr h).fp b o ∧ ¬ fp h b o
  let hr' : Nat → HR := fun h => ⟨(hr h).cs, fp h⟩
  have sI : Sub I I' := fun _ _ x => .inl x
  have hold : ∀ h H', s'.home? h = some H' → ∃ H, s.home? h = some H := fun h H' e => by obtain ⟨H, hH, _⟩ := hh h H' e; exact ⟨H, hH⟩
  have aI : ∀ b o, I' b o → b < w.heap.size := fun b o x => x.elim (Rr.old b o) fun ⟨h, H', e, y, _⟩ => by obtain ⟨H, hH⟩ := hold h H' e; exact Rr.oldf h H hH b o y
  refine ⟨I', hr', ⟨⟨?_, ?_, ?_, aI, ?_⟩, fun n => ?_, Nat.le_trans hn Rn⟩, ⟨.refl _ _, sI, ?_, ?_, ?_⟩⟩
  · intro h H' e
    refine HRel_keep (fun b o x => x.elim .inl fun y => .inr ⟨h, H', e, (hk h).1.1 b o y, fun q => (hk h).1.2.2 b o y q⟩) (Keep.refl _ _) (Keep.refl _ _) (.refl _) ((hk h).2 H' e)
  · intro h g H' G' e1 e2 ne
    obtain ⟨H, hH⟩ := hold h H' e1
    obtain ⟨G, hG⟩ := hold g G' e2
    exact (Rr.disj h g H G hH hG ne).sub (hk h).1.2.1 (hk g).1.2.1
  · intro h H' e b o x y
    obtain ⟨H, hH⟩ := hold h H' e
    rcases y with y | ⟨g, G', e2, y1, y2⟩
    · exact Rr.apart h H hH b o ((hk h).1.2.1 b o x) y
    · by_cases ne : h = g
      · subst ne; exact y2 x
      · obtain ⟨G, hG⟩ := hold g G' e2
        exact Rr.disj h g H G hH hG ne b o ((hk h).1.2.1 b o x) y1
  · intro h H' e b o x
    obtain ⟨H, hH⟩ := hold h H' e
    exact Rr.oldf h H hH b o ((hk h).1.2.1 b o x)
  · rcases hs n with h | h | h
    · rw [h]; trivial
    · rw [h]
      have := EvRel_map (f := id) (w' := w) (I' := I') (hm' := s'.home?) (hr' := hr') (fun a r ha => AtRel_stay sI (Keep.refl _ _) (fun g _ => by
        cases e : s'.home? g with
        | none => exact .inl e
        | some H' =>
          obtain ⟨H, hH, hb, hio, hx, hsh⟩ := hh g H' e
          refine .inr ⟨H, H', hH, e, hb, hx, rfl, Keep.refl _ _, fun b o x => ?_⟩
          rcases x with x | x
          · by_cases q : fp g b o
            · exact .inl q
            · exact .inr (.inr ⟨g, H', e, x, q⟩)
          · exact .inr (.inl x)) ha) (Rs n)
      rwa [EV.map_id] at this
    · have := EvRel_map (f := id) (w' := w) (I' := I') (hm' := s'.home?) (hr' := hr') (fun a r ha => AtRel_stay (hm := s'.home?) (hr := hr') sI (Keep.refl _ _) (fun g _ => by
        cases e : s'.home? g with
        | none => exact .inl e
        | some H' => exact .inr ⟨H', H', e, e, rfl, rfl, rfl, Keep.refl _ _, fun b o x => x.elim .inl fun y => .inr (sI b o y)⟩) ha) (h s'.home? hr')
      rwa [EV.map_id] at this
  · rintro b o (x | ⟨h, H', e, x, _⟩)
    · exact .inl x
    · obtain ⟨H, hH⟩ := hold h H' e
      exact .inr (.inl ⟨h, H, hH, x⟩)
  · rintro b o ⟨h, H', e, x⟩
    obtain ⟨H, hH⟩ := hold h H' e
    exact .inl ⟨h, H, hH, (hk h).1.2.1 b o x⟩
  · intro h H' e io
    obtain ⟨H, hH, hb, hio, hx, hsh⟩ := hh h H' e
    refine ⟨H, hH, hio ▸ io, hb.symm, ?_, rfl⟩
    have := congrArg Sigma.fst hx
    exact this.symm

theorem eqPath_eq : ∀ {a b : Path}, eqPath a b = true → a = b
  | [], [], _ => rfl
  | .fst :: p, .fst :: q, h => by simp only [eqPath] at h; rw [eqPath_eq h]
  | .snd :: p, .snd :: q, h => by simp only [eqPath] at h; rw [eqPath_eq h]
  | [], _ :: _, h => by simp [eqPath] at h
  | .fst :: _, [], h => by simp [eqPath] at h
  | .snd :: _, [], h => by simp [eqPath] at h
  | .idx _ :: _, [], h => by simp [eqPath] at h
  | .fst :: _, .snd :: _, h => by simp [eqPath] at h
  | .snd :: _, .fst :: _, h => by simp [eqPath] at h
  | .fst :: _, .idx _ :: _, h => by simp [eqPath] at h
  | .snd :: _, .idx _ :: _, h => by simp [eqPath] at h
  | .idx _ :: _, _ :: _, h => by simp [eqPath] at h
theorem eqAt_eq {a b : At} (h : eqAt a b = true) : a = b := by
  cases a <;> cases b <;> simp only [eqAt, Bool.false_eq_true, Bool.and_eq_true] at h <;> first | rfl | (rw [beq_iff.1 h.1, eqPath_eq h.2])
theorem eqAts_eq : ∀ {a b : List At}, eqAts a b = true → a = b
  | [], [], _ => rfl
  | a :: r, b :: s, h => by simp only [eqAts, Bool.and_eq_true] at h; rw [eqAt_eq h.1, eqAts_eq h.2]
  | [], _ :: _, h => by simp [eqAts] at h
  | _ :: _, [], h => by simp [eqAts] at h
theorem eqEV_eq {a b : EV} (h : eqEV a b = true) : a = b := by
  cases a <;> cases b <;> simp only [eqEV, Bool.false_eq_true, Bool.and_eq_true] at h
  · rw [eqAt_eq h]
  · rw [eqAts_eq h]
  · rw [beq_iff.1 h.1, eqAts_eq h.2]

theorem getL_app {α : Type} : ∀ (l m : List (Nat × α)) (n : Nat), getL (l ++ m) n = (match getL l n with | some a => some a | none => getL m n)
  | [], _, _ => rfl
  | (k, a) :: r, m, n => by
    rw [List.cons_append, getL_cons, getL_cons]
    split
    · rfl
    · exact getL_app r m n
theorem canonSl_get {s : St} : ∀ {l : List (Nat × SlT)} {x : slD l} {n : Nat} {e : EV}, (canonSl s l).Is x → getL (injSl l x) n = some e → e = s.get n
  | [], _, _, _, _, h => by cases h
  | (k, .pv t) :: r, x, n, e, hc, h => by
    simp only [canonSl] at hc
    split at hc
    · rename_i v hv
      simp only [Q.is_bind', Q.is_of, Q.is_pure] at hc
      obtain ⟨y, hy, z, hz, rfl⟩ := hc
      simp only [injSl, getL_cons] at h
      split at h
      · rename_i hk; cases h; subst hk; rw [hv, TV.as_some.1 hy]
      · exact canonSl_get hz h
    · simp only [Q.is_fail] at hc
  | (k, .cref t) :: r, x, n, e, hc, h => by
    simp only [canonSl] at hc
    split at hc
    · rename_i v hv
      simp only [Q.is_bind', Q.is_of, Q.is_pure] at hc
      obtain ⟨y, hy, z, hz, rfl⟩ := hc
      simp only [injSl, getL_cons] at h
      split at h
      · rename_i hk; cases h; subst hk; rw [hv, TV.as_some.1 hy]
      · exact canonSl_get hz h
    · simp only [Q.is_fail] at hc
  | (k, .st e0) :: r, x, n, e, hc, h => by
    simp only [canonSl, Q.is_bind', Q.is_must] at hc
    obtain ⟨_, he, hz⟩ := hc
    simp only [injSl, getL_cons] at h
    split at h
    · rename_i hk; cases h; subst hk; exact (eqEV_eq he).symm
    · exact canonSl_get hz h
theorem canonHm_get {s : St} : ∀ {l : List (Nat × HmT)} {x : hmD l} {n : Nat} {H' : Home}, (canonHm s l).Is x → getL (injHm l x) n = some (some H') →
    ∃ H, s.home? n = some H ∧ H'.bx = H.bx ∧ H'.io = H.io ∧ (⟨H'.t, H'.x⟩ : TV) = ⟨H.t, H.x⟩ ∧ Sh.le H.t H'.sh H.sh = true
  | [], _, _, _, _, h => by cases h
  | (k, g) :: r, x, n, H', hc, h => by
    simp only [canonHm, Q.is_bind', homeQ_is, Q.is_must, Q.is_of, Q.is_pure, Bool.and_eq_true, beq_iff_eq] at hc
    obtain ⟨H, hH, _, ⟨⟨h1, h2⟩, h3⟩, y, hy, z, hz, rfl⟩ := hc
    simp only [injHm, getL_cons] at h
    split at h
    · rename_i hk
      subst hk
      cases h
      have := TV.as_some.1 hy
      obtain ⟨sh, t, x, bx, io, d⟩ := H
      cases this
      exact ⟨_, hH, h2.symm, h3.symm, rfl, h1⟩
    · exact canonHm_get hz h
theorem injHm_none : ∀ {l : List (Nat × HmT)} {x : hmD l} {n : Nat}, getL (injHm l x) n ≠ some none
  | [], _, _, h => by cases h
  | (k, g) :: r, x, n, h => by
    simp only [injHm, getL_cons] at h
    split at h
    · cases h
    · exact injHm_none h
theorem keepSl_get {s : St} : ∀ {l : List Nat} {n : Nat} {e : EV}, getL (keepSl s l) n = some e → n ∈ l ∧ e = s.get n
  | [], _, _, h => by cases h
  | k :: r, n, e, h => by
    simp only [keepSl, getL_cons] at h
    split at h
    · rename_i hk; cases h; subst hk; exact ⟨List.mem_cons_self, rfl⟩
    · obtain ⟨h1, h2⟩ := keepSl_get h; exact ⟨List.mem_cons_of_mem _ h1, h2⟩

/-- a state that a template tells -/
def tmSt (m : Tm) (s0 : St) (khl : List (Nat × Option Home)) (v : m.den) : St := ⟨s0.n, injSl m.sl v.1 ++ keepSl s0 m.ks, injHm m.hm v.2 ++ khl⟩
theorem tm_sound {w : World} {I : CS} {m : Tm} {s0 s' : St} {v : m.den} {hr : Nat → HR} {tmps : Array Value} {khl : List (Nat × Option Home)} (R : StRel w I s' hr tmps) (hn : s'.n = s0.n) (h1 : (canonSl s' m.sl).Is v.1) (h2 : (canonHm s' m.hm).Is v.2)
    (hk : ∀ h H', getL khl h = some (some H') → (∀ H, getL (injHm m.hm v.2) h ≠ some H) → ∃ H, s'.home? h = some H ∧ H'.bx = H.bx ∧ H'.io = H.io ∧ (⟨H'.t, H'.x⟩ : TV) = ⟨H.t, H.x⟩ ∧ H'.sh = H.sh)
    (hs : ∀ n, n ∈ m.ks → s0.get n = s'.get n ∨ ∀ hm hr, EvRel w I hm hr (s0.get n) (tmps.getD n undef)) :
    ∃ I' hr', StRel w I' (tmSt m s0 khl v) hr' tmps ∧ Trans w I s'.home? hr w I' (tmSt m s0 khl v).home? hr' := by
  refine weaken R (Nat.le_of_eq hn.symm) ?_ ?_
  · intro h H' e
    simp only [tmSt, St.home?, getL_app] at e
    cases e1 : getL (injHm m.hm v.2) h with
    | some o =>
      rw [e1] at e
      simp only [Option.getD_some] at e
      subst e
      obtain ⟨H, a, b, c, d, f⟩ := canonHm_get h2 e1
      exact ⟨H, a, b, c, d, .inr f⟩
    | none =>
      rw [e1] at e
      simp only at e
      cases e2 : getL khl h with
      | none => rw [e2] at e; cases e
      | some o =>
        rw [e2] at e
        simp only [Option.getD_some] at e
        subst e
        obtain ⟨H, a, b, c, d, f⟩ := hk h H' e2 (fun H q => by rw [e1] at q; cases q)
        exact ⟨H, a, b, c, d, .inl f⟩
  · intro n
    simp only [tmSt, St.get, getL_app]
    cases e1 : getL (injSl m.sl v.1) n with
    | some e => exact .inr (.inl (canonSl_get h1 e1))
    | none =>
      simp only
      cases e2 : getL (keepSl s0 m.ks) n with
      | none => exact .inl rfl
      | some e =>
        obtain ⟨hm, rfl⟩ := keepSl_get e2
        exact .inr (hs n hm)
end Go.VM
/- Soundness, part 26a: one operation. -/
namespace Go.VM
variable {P : Program} {ty : Types}

/-- an act and a world as an operation leaves them -/
def After (a : Act) (dst : Option Tmp) (w : World) (I : CS) (s : St) (hr : Nat → HR) (s' : St) : Act → World → Prop := fun a' w' =>
  ∃ v I' hr', a' = a.put dst v ∧ StRel w' I' s' hr' a'.tmps ∧ Trans w I s.home? hr w' I' s'.home? hr'
def StepOK (P : Program) (o : Oper) (a : Act) (w : World) (I : CS) (s : St) (hr : Nat → HR) (s' : St) : Prop :=
  ∀ Q, o.wp P a w (After a o.dst w I s hr s') Q
theorem Done.step {o : Oper} {a : Act} {w : World} {I : CS} {s s' : St} {hr : Nat → HR} {d : Nat} (h : Done P o a w I s hr d s') (hd : o.dst = some d) : StepOK P o a w I s hr s' := by
  intro Q
  obtain ⟨v, w', I', hr', h1, h2, h3⟩ := h
  unfold Oper.wp
  rw [h1, Oper.upon_value, hd]
  exact ⟨v, I', hr', rfl, h2, h3⟩
theorem DoneS.step {o : Oper} {a : Act} {w : World} {I : CS} {s s' : St} {hr : Nat → HR} (h : DoneS P o a w I s hr s') (hd : o.dst = none) : StepOK P o a w I s hr s' := by
  intro Q
  obtain ⟨w', I', hr', h1, h2, h3⟩ := h
  unfold Oper.wp
  rw [h1, Oper.upon_skip, hd]
  exact ⟨undef, I', hr', rfl, h2, h3⟩

variable {cx : Nat → Inst} {call : (j : Nat) → (cx j).args.den → Option (cx j).res}
/-- calls keep their word -/
def CallOK (P : Program) (cx : Nat → Inst) (call : (j : Nat) → (cx j).args.den → Option (cx j).res) : Prop :=
  ∀ (o : Oper) (c : Call) (x : Operand) (f j : Nat) (caps : List At) (a : Act) (w : World) (I : CS) (s s' : St) (hr : Nat → HR),
    o.op = .call c → c.callee = .value x → s.ev x = .fn f caps → StRel w I s hr a.tmps → (∀ d, o.dst = some d → d < s.n) → (callQ cx call s o.dst j f (c.args.toList.map s.ev ++ caps.map .at)).Is s' → StepOK P o a w I s hr s' ∧ Mild s s'

theorem dstQ_is {s : St} {o : Oper} {d : Nat} (h : (dstQ s o).Is d) : o.dst = some d ∧ d < s.n := by
  unfold dstQ at h
  split at h
  · rename_i d' hd
    simp only [Q.is_bind', Q.is_must, Q.is_pure] at h
    obtain ⟨_, h1, rfl⟩ := h
    exact ⟨hd, by simpa [Nat.blt_eq] using h1⟩
  · simp only [Q.is_fail] at h

theorem op_sound (tok : TyOK P ty) (cok : CallOK P cx call) {calls : List (Nat × Nat)} {i : Nat} {o : Oper} {a : Act} {w : World} {I : CS} {s s' : St} {hr : Nat → HR} (R : StRel w I s hr a.tmps) (hq : (opQ ty cx call calls i o s).Is s') :
    StepOK P o a w I s hr s' ∧ Mild s s' := by
  unfold opQ at hq
  split at hq
  · rename_i T x y ho
    split at hq
    · rename_i hd
      exact ⟨(op_store tok R ho hq).step hd, storeQ_mild hq⟩
    · simp only [Q.is_fail] at hq
  · rename_i T m x y ho
    split at hq
    · rename_i hd
      exact ⟨(op_mapUpd tok R ho hq).step hd, mapUpdQ_mild hq⟩
    · simp only [Q.is_fail] at hq
  · rename_i c ho
    split at hq
    · rename_i x hx
      split at hq
      · rename_i f caps hf
        cases hdst : o.dst with
        | none =>
          rw [hdst] at hq
          simp only [Q.is_bind', Q.is_of] at hq
          obtain ⟨_, hd, j, hj, hq⟩ := hq
          exact cok o c x f j caps a w I s s' hr ho hx hf R (fun d e => by rw [hdst] at e; cases e) (by rw [hdst]; exact hq)
        | some d0 =>
          rw [hdst] at hq
          simp only [Q.is_bind', Q.is_of, Q.is_must] at hq
          obtain ⟨_, hd, j, hj, hq⟩ := hq
          exact cok o c x f j caps a w I s s' hr ho hx hf R (fun d e => by rw [hdst] at e; cases e; simpa [Nat.blt_eq] using hd) (by rw [hdst]; exact hq)
      · simp only [Q.is_fail] at hq
    · rename_i b hb
      simp only [Q.is_bind'] at hq
      obtain ⟨d, hd, hq⟩ := hq
      obtain ⟨h1, h2⟩ := dstQ_is hd
      exact ⟨(builtin_sound tok R h2 ho hb hq).step h1, builtinQ_mild hq⟩
    · simp only [Q.is_fail] at hq
  · simp only [Q.is_bind'] at hq
    obtain ⟨d, hd, hq⟩ := hq
    obtain ⟨h1, h2⟩ := dstQ_is hd
    exact ⟨(op1_sound tok R h2 hq).step h1, op1Q_mild hq⟩

end Go.VM
/- Soundness, draws, part 1: what an operation looks at is all that it depends on. -/
namespace Go.VM
variable {P : Program} {ty : Types}

/-- what a change of the slots may touch: what leads to homes that are gone, or changed -/
def Kap (κ : At → At) (r : St) : Prop := ∀ a, κ a = a ∨ ∃ h, refA a = some h ∧ ∀ H', r.home? h = some H' → H'.d = true
theorem Kap.id {r : St} : Kap id r := fun _ => .inl rfl
theorem Kap.later {κ : At → At} {r t : St} (h : Kap κ r) (m : Mild r t) : Kap κ t := fun a => (h a).imp _root_.id fun ⟨g, e, k⟩ => ⟨g, e, fun H' e' => by
  cases hd : H'.d with
  | true => rfl
  | false => rw [← hd]; exact k H' (m.keep g H' e' hd)⟩
theorem Kap.comp {κ1 κ2 : At → At} {t : St} (h1 : Kap κ1 t) (h2 : Kap κ2 t) : Kap (fun a => κ2 (κ1 a)) t := fun a => by
  rcases h1 a with e | h
  · simp only [e]; exact h2 a
  · exact .inr h
theorem Kap.pv {κ : At → At} {t : St} (h : Kap κ t) {a : At} (ha : refA a = none) : κ a = a := (h a).elim _root_.id fun ⟨g, e, _⟩ => by rw [ha] at e; cases e
theorem EV.map_map (e : EV) (f g : At → At) : (e.map f).map g = e.map fun a => g (f a) := by cases e <;> simp [EV.map, Function.comp_def]
theorem constEV_ref (v : Value) : refA (constEV v) = none := by
  cases v with
  | string b => simp only [constEV]; cases Nat.ble b.size most <;> rfl
  | _ => simp only [constEV] <;> (try split) <;> rfl
theorem Kap.ev {κ : At → At} {s r : St} (h : Kap κ r) (g : ∀ x, r.get x = (s.get x).map κ) (o : Operand) : r.ev o = (s.ev o).map κ := by
  cases o with
  | tmp t => exact g t
  | const v => simp only [St.ev, EV.map, h.pv (constEV_ref v)]
  | func f => rfl
  | global n => simp only [St.ev, EV.map]; rw [h.pv rfl]

def Loc (L : List Operand) (s r : St) (F : St → St → Prop) : Prop :=
  Mild s r ∧ ∃ κ : At → At, Kap κ r ∧ (∀ x, r.get x = (s.get x).map κ) ∧
    ∀ s', s'.n = s.n → (∀ h, s'.home? h = s.home? h) → (∀ o, o ∈ L → s'.ev o = s.ev o) → ∃ r', F s' r' ∧ r'.n = r.n ∧ (∀ h, r'.home? h = r.home? h) ∧ ∀ x, r'.get x = (s'.get x).map κ
/-- with a result in a slot -/
def LocD (L : List Operand) (dst : Option Nat) (s r : St) (F : St → St → Prop) : Prop :=
  Mild s r ∧ ∃ κ : At → At, Kap κ r ∧ (∀ x, dst ≠ some x → r.get x = (s.get x).map κ) ∧
    ∀ s', s'.n = s.n → (∀ h, s'.home? h = s.home? h) → (∀ o, o ∈ L → s'.ev o = s.ev o) → ∃ r', F s' r' ∧ r'.n = r.n ∧ (∀ h, r'.home? h = r.home? h) ∧ (∀ x, dst = some x → r'.get x = r.get x) ∧ ∀ x, dst ≠ some x → r'.get x = (s'.get x).map κ

theorem Loc.sub {L M : List Operand} {s r : St} {F : St → St → Prop} (h : Loc L s r F) (hs : ∀ o, o ∈ L → o ∈ M) : Loc M s r F := by
  obtain ⟨m, κ, k, g, e⟩ := h
  exact ⟨m, κ, k, g, fun s' a b c => e s' a b fun o ho => c o (hs o ho)⟩
theorem Loc.mono {L : List Operand} {s r : St} {F G : St → St → Prop} (h : Loc L s r F) (hs : ∀ s' r', s'.n = s.n → (∀ h, s'.home? h = s.home? h) → (∀ o, o ∈ L → s'.ev o = s.ev o) → F s' r' → G s' r') : Loc L s r G := by
  obtain ⟨m, κ, k, g, e⟩ := h
  exact ⟨m, κ, k, g, fun s' a b c => by obtain ⟨r', f, x⟩ := e s' a b c; exact ⟨r', hs _ _ a b c f, x⟩⟩
theorem LocD.mono {L : List Operand} {d : Option Nat} {s r : St} {F G : St → St → Prop} (h : LocD L d s r F) (hs : ∀ s' r', s'.n = s.n → (∀ h, s'.home? h = s.home? h) → (∀ o, o ∈ L → s'.ev o = s.ev o) → F s' r' → G s' r') : LocD L d s r G := by
  obtain ⟨m, κ, k, g, e⟩ := h
  exact ⟨m, κ, k, g, fun s' a b c => by obtain ⟨r', f, x⟩ := e s' a b c; exact ⟨r', hs _ _ a b c f, x⟩⟩
theorem Loc.refl {L : List Operand} (s : St) : Loc L s s (fun s' r' => r' = s') := ⟨.refl s, _root_.id, .id, fun x => (EV.map_id _).symm, fun s' a b c => ⟨s', rfl, a, b, fun x => (EV.map_id _).symm⟩⟩
theorem Loc.comp {L : List Operand} {s r t : St} {F G : St → St → Prop} (h : Loc L s r F) (k : Loc L r t G) : Loc L s t (fun s' t' => ∃ r', F s' r' ∧ G r' t') := by
  obtain ⟨m1, κ1, k1, g1, e1⟩ := h
  obtain ⟨m2, κ2, k2, g2, e2⟩ := k
  refine ⟨m1.trans m2, fun a => κ2 (κ1 a), (k1.later m2).comp k2, fun x => by rw [g2, g1, EV.map_map], fun s' a b c => ?_⟩
  obtain ⟨r', f1, n1, h1, x1⟩ := e1 s' a b c
  have k1' : Kap κ1 r' := fun a => (k1 a).imp _root_.id fun ⟨g, e, q⟩ => ⟨g, e, fun H' e' => q H' (by rw [← h1]; exact e')⟩
  obtain ⟨t', f2, n2, h2, x2⟩ := e2 r' n1 h1 fun o ho => by rw [k1'.ev x1, k1.ev g1, c o ho]
  exact ⟨t', ⟨r', f1, f2⟩, n2, h2, fun x => by rw [x2, x1, EV.map_map]⟩
theorem Loc.toSet {L : List Operand} {s r : St} {F : St → St → Prop} (h : Loc L s r F) (d : Nat) (e : EV) : LocD L (some d) s (r.set d e) (fun s' t' => ∃ r', F s' r' ∧ t' = r'.set d e) := by
  obtain ⟨m, κ, k, g, q⟩ := h
  refine ⟨m.set d e, κ, k, fun x hx => by rw [get_set, if_neg (fun c => hx (by rw [c])), g], fun s' a b c => ?_⟩
  obtain ⟨r', f, n1, h1, x1⟩ := q s' a b c
  exact ⟨r'.set d e, ⟨r', f, rfl⟩, n1, h1, fun x hx => by cases hx; rw [get_set, get_set, if_pos rfl, if_pos rfl], fun x hx => by rw [get_set, if_neg (fun c => hx (by rw [c])), x1]⟩
theorem Loc.toD {L : List Operand} {s r : St} {F : St → St → Prop} (h : Loc L s r F) : LocD L none s r F := by
  obtain ⟨m, κ, k, g, q⟩ := h
  refine ⟨m, κ, k, fun x _ => g x, fun s' a b c => ?_⟩
  obtain ⟨r', f, n1, h1, x1⟩ := q s' a b c
  exact ⟨r', f, n1, h1, (fun x hx => nomatch hx), fun x _ => x1 x⟩
theorem killH_ref (h : Nat) (a : At) : killH h a = a ∨ refA a = some h := by
  cases a with
  | rf g p => by_cases e : g = h
              · subst e; exact .inr rfl
              · exact .inl (by simp only [killH, beq_false e, cond_false])
  | rg g p x y => by_cases e : g = h
                  · subst e; exact .inr rfl
                  · exact .inl (by simp only [killH, beq_false e, cond_false])
  | ptr g p => by_cases e : g = h
               · subst e; exact .inr rfl
               · exact .inl (by simp only [killH, beq_false e, cond_false])
  | _ => exact .inl rfl
theorem killR_ref (h : Nat) (b : Bool) (a : At) : killR h b a = a ∨ refA a = some h := by
  cases a with
  | rf g p => by_cases e : g = h
              · subst e; exact .inr rfl
              · exact .inl (by simp only [killR, beq_false e, Bool.false_and, cond_false])
  | rg g p x y => by_cases e : g = h
                  · subst e; exact .inr rfl
                  · exact .inl (by simp only [killR, beq_false e, Bool.false_and, cond_false])
  | ptr g p => by_cases e : g = h
               · subst e; exact .inr rfl
               · exact .inl (by simp only [killR, beq_false e, Bool.false_and, cond_false])
  | _ => exact .inl rfl
theorem ren_ref (h g : Nat) (a : At) : ren h g a = a ∨ refA a = some h := by
  cases a with
  | rf i p => by_cases e : i = h
              · subst e; exact .inr rfl
              · exact .inl (by simp only [ren, beq_false e, cond_false])
  | rg i p x y => by_cases e : i = h
                  · subst e; exact .inr rfl
                  · exact .inl (by simp only [ren, beq_false e, cond_false])
  | ptr i p => by_cases e : i = h
               · subst e; exact .inr rfl
               · exact .inl (by simp only [ren, beq_false e, cond_false])
  | _ => exact .inl rfl
theorem Kap.of {κ : At → At} {r : St} {h : Nat} (hk : ∀ a, κ a = a ∨ refA a = some h) (hd : ∀ H', r.home? h = some H' → H'.d = true) : Kap κ r := fun a => (hk a).imp _root_.id fun e => ⟨h, e, hd⟩

/-- a home's content is changed, and what leads into it cut off -/
theorem setMap_loc {s : St} {h : Nat} {H : Option Home} {κ : At → At} (hk : ∀ a, κ a = a ∨ refA a = some h) (h0 : κ .dead = .dead) (hd : ∀ H', H = some H' → H'.d = true) : Loc [] s ((s.setH h H).mapA κ) (fun s' r' => r' = (s'.setH h H).mapA κ) := by
  have hh : ∀ (s : St) H', ((s.setH h H).mapA κ).home? h = some H' → H'.d = true := fun s H' e => by
    rw [home?_mapA, home?_setH, if_pos rfl] at e; exact hd H' e
  refine ⟨((Mild.refl s).setH h hd).mapA κ, κ, .of hk (hh s), fun x => by rw [get_mapA _ _ h0]; rfl, fun s' a b c => ⟨_, rfl, a, fun g => ?_, fun x => by rw [get_mapA _ _ h0]; rfl⟩⟩
  rw [home?_mapA, home?_mapA, home?_setH, home?_setH, b]
theorem setH_loc {s : St} {h : Nat} {H : Option Home} (hd : ∀ H', H = some H' → H'.d = true) : Loc [] s (s.setH h H) (fun s' r' => r' = s'.setH h H) :=
  ⟨(Mild.refl s).setH h hd, _root_.id, .id, fun x => (EV.map_id _).symm, fun s' a b c => ⟨_, rfl, a, fun g => by rw [home?_setH, home?_setH, b], fun x => (EV.map_id _).symm⟩⟩
theorem newH_loc {s : St} {h : Nat} {H : Home} (hd : H.d = true) : Loc [] s (s.newH h H) (fun s' r' => r' = s'.newH h H) :=
  ⟨(Mild.refl s).newH h hd, killH h, .of (killH_ref h) (fun H' e => by rw [home?_newH, if_pos rfl] at e; cases e; exact hd), fun x => get_newH .., fun s' a b c => ⟨_, rfl, a, fun g => by rw [home?_newH, home?_newH, b], fun x => get_newH ..⟩⟩
theorem mapA_loc {s : St} {h : Nat} {κ : At → At} (hk : ∀ a, κ a = a ∨ refA a = some h) (h0 : κ .dead = .dead) (hd : ∀ H', s.home? h = some H' → H'.d = true) : Loc [] s (s.mapA κ) (fun s' r' => r' = s'.mapA κ) :=
  ⟨(Mild.refl s).mapA κ, κ, .of hk (fun H' e => hd H' e), fun x => get_mapA _ _ h0 _, fun s' a b c => ⟨_, rfl, a, b, fun x => get_mapA _ _ h0 _⟩⟩

/-! ### what is read -/
theorem homeQ_c {s s' : St} {h : Nat} (b : s'.home? h = s.home? h) : s'.homeQ h = s.homeQ h := by simp only [St.homeQ, b]
theorem look_c {s s' : St} {h : Nat} {p : Path} (b : s'.home? h = s.home? h) : s'.look h p = s.look h p := by simp only [St.look, homeQ_c b]
theorem seeQ_c {s s' : St} {h : Nat} {p : Path} (b : s'.home? h = s.home? h) : s'.seeQ h p = s.seeQ h p := by simp only [St.seeQ, look_c b]
theorem elemsQ_c {s s' : St} {h : Nat} {p : Path} (b : s'.home? h = s.home? h) : s'.elemsQ h p = s.elemsQ h p := by simp only [St.elemsQ, seeQ_c b]
theorem hdrQ_c {s s' : St} {h : Nat} {p : Path} (b : s'.home? h = s.home? h) : s'.hdrQ h p = s.hdrQ h p := by simp only [St.hdrQ, look_c b]
theorem atQ_c {s s' : St} {o : Operand} (c : s'.ev o = s.ev o) : s'.atQ o = s.atQ o := by simp only [St.atQ, c]
theorem tvQ_c {s s' : St} {o : Operand} (c : s'.ev o = s.ev o) : s'.tvQ o = s.tvQ o := by simp only [St.tvQ, atQ_c c]
theorem intQ_c {s s' : St} {o : Operand} (c : s'.ev o = s.ev o) : s'.intQ o = s.intQ o := by simp only [St.intQ, tvQ_c c]
theorem boolQ_c {s s' : St} {o : Operand} (c : s'.ev o = s.ev o) : s'.boolQ o = s.boolQ o := by simp only [St.boolQ, tvQ_c c]
theorem seeSl_c {s s' : St} {o : Operand} {e : Ty} (c : s'.ev o = s.ev o) (b : ∀ h, s'.home? h = s.home? h) : s'.seeSl o e = s.seeSl o e := by
  simp only [St.seeSl, atQ_c c, fun h p => look_c (p := p) (b h)]
theorem mapQ_c {s s' : St} {o : Operand} (c : s'.ev o = s.ev o) (b : ∀ a h, s.ev o = .at a → h ∈ atRef a → s'.home? h = s.home? h) : (s'.mapQ o).Is = (s.mapQ o).Is := by
  funext l
  simp only [St.mapQ, Q.is_bind', atQ_is, c]
  apply propext
  constructor
  · rintro ⟨v, hv, h⟩
    refine ⟨v, hv, ?_⟩
    cases v <;> simp only [Q.is_fail] at h ⊢ <;> first | exact h | skip
    rename_i g p
    rwa [look_c (b _ g hv (by simp [atRef]))] at h
  · rintro ⟨v, hv, h⟩
    refine ⟨v, hv, ?_⟩
    cases v <;> simp only [Q.is_fail] at h ⊢ <;> first | exact h | skip
    rename_i g p
    rwa [look_c (b _ g hv (by simp [atRef]))]
theorem deepQ_c {s s' : St} {o : Operand} (c : s'.ev o = s.ev o) (b : ∀ h, s'.home? h = s.home? h) : deepQ s' o = deepQ s o := by
  simp only [deepQ, c, fun h p => look_c (p := p) (b h)]
theorem ownedOp_c {s s' : St} {o : Operand} (c : s'.ev o = s.ev o) (b : ∀ h, s'.home? h = s.home? h) : s'.ownedOp o = s.ownedOp o := by
  simp only [St.ownedOp, c, b]

/-! ### what takes, lays, gives -/
theorem take_loc {s : St} {h : Nat} {p : Path} {r : Home × St} (hq : (s.take h p).Is r) : Loc [] s r.2 (fun s' r' => (s'.take h p).Is (r.1, r')) := by
  simp only [St.take, Q.is_bind', homeQ_is, Q.is_must] at hq
  obtain ⟨H, hH, q, hl, _, hw, hq⟩ := hq
  cases hc : (p.isEmpty && !H.bx) with
  | true =>
    simp only [hc, cond_true, Q.is_bind', Q.is_must, Q.is_pure] at hq
    obtain ⟨_, hio, rfl⟩ := hq
    refine (setH_loc (fun _ e => by cases e)).mono fun s' r' a b c e => ?_
    subst e
    simp only [St.take, Q.is_bind', homeQ_is, Q.is_must]
    exact ⟨H, by rw [b]; exact hH, q, hl, (), hw, by simp only [hc, cond_true, Q.is_bind', Q.is_must, Q.is_pure]; exact ⟨(), hio, trivial⟩⟩
  | false =>
    simp only [hc, cond_false, Q.is_bind', Q.is_pure] at hq
    obtain ⟨z, hz, rfl⟩ := hq
    refine (setMap_loc (killR_ref h H.bx) rfl (fun _ e => by cases e; rfl)).mono fun s' r' a b c e => ?_
    subst e
    simp only [St.take, Q.is_bind', homeQ_is, Q.is_must]
    exact ⟨H, by rw [b]; exact hH, q, hl, (), hw, by simp only [hc, cond_false, Q.is_bind', Q.is_pure]; exact ⟨z, hz, rfl⟩⟩
theorem freeze_loc {s : St} {h : Nat} {p : Path} {r : TV × St} (hq : (s.freeze h p).Is r) : Loc [] s r.2 (fun s' r' => (s'.freeze h p).Is (r.1, r')) := by
  simp only [St.freeze, Q.is_bind', homeQ_is, Q.is_must, Q.is_of, Q.is_pure] at hq
  obtain ⟨H, hH, sh, h1, _, h2, q, h3, _, h4, rfl⟩ := hq
  refine (setH_loc (fun _ e => by cases e; rfl)).mono fun s' r' a b c e => ?_
  subst e
  simp only [St.freeze, Q.is_bind', homeQ_is, Q.is_must, Q.is_of, Q.is_pure]
  exact ⟨H, by rw [b]; exact hH, sh, h1, (), h2, q, h3, (), h4, rfl⟩
theorem putP_loc {s r : St} {h : Nat} {p : Path} {n : Sh} {v : TV} (hq : (s.putP h p n v).Is r) : Loc [] s r (fun s' r' => (s'.putP h p n v).Is r') := by
  simp only [St.putP, Q.is_bind', homeQ_is, Q.is_pure] at hq
  obtain ⟨H, hH, z, hz, rfl⟩ := hq
  refine (setMap_loc (killR_ref h H.bx) rfl (fun _ e => by cases e; rfl)).mono fun s' r' a b c e => ?_
  subst e
  simp only [St.putP, Q.is_bind', homeQ_is, Q.is_pure]
  exact ⟨H, by rw [b]; exact hH, z, hz, rfl⟩
theorem takeSl_loc {s : St} {o : Operand} {e : Ty} {r : Sh × List e.den × St} (hq : (s.takeSl o e).Is r) : Loc [o] s r.2.2 (fun s' r' => (s'.takeSl o e).Is (r.1, r.2.1, r')) := by
  simp only [St.takeSl, Q.is_bind', atQ_is] at hq
  obtain ⟨x, hx, hq⟩ := hq
  cases x <;> simp only [Q.is_fail, Q.is_ret] at hq
  · subst hq
    refine (Loc.refl s).mono fun s' r' a b c e => ?_
    subst e
    simp only [St.takeSl, Q.is_bind', atQ_is]
    exact ⟨_, by rw [c _ List.mem_cons_self]; exact hx, by simp only [Q.is_ret]⟩
  all_goals
    simp only [Q.is_bind', Q.is_of, Q.is_pure] at hq
    obtain ⟨z, ht, es, h1, l, h2, rfl⟩ := hq
    refine ((take_loc ht).sub (fun o ho => by cases ho)).mono fun s' r' a b c e => ?_
    simp only [St.takeSl, Q.is_bind', atQ_is]
    exact ⟨_, by rw [c _ List.mem_cons_self]; exact hx, by simp only [Q.is_bind', Q.is_of, Q.is_pure]; exact ⟨_, e, es, h1, l, h2, rfl⟩⟩
theorem giveQ_loc {s : St} {o : Operand} {t : Ty} {flat : Bool} {r : Sh × t.den × St} (hq : (s.giveQ o t flat).Is r) : Loc [o] s r.2.2 (fun s' r' => (s'.giveQ o t flat).Is (r.1, r.2.1, r')) := by
  simp only [St.giveQ, Q.is_bind', atQ_is] at hq
  obtain ⟨x, hx, hq⟩ := hq
  have fin : ∀ {r' : St} {F : St → St → Prop}, Loc [o] s r' F → (∀ s' r'', s'.ev o = .at x → F s' r'' → (s'.giveQ o t flat).Is (r.1, r.2.1, r'')) → Loc [o] s r' (fun s' r'' => (s'.giveQ o t flat).Is (r.1, r.2.1, r'')) := fun h1 h2 =>
    h1.mono fun s' r'' a b c e => h2 s' r'' (by rw [c _ List.mem_cons_self]; exact hx) e
  cases x <;> simp only [Q.is_fail] at hq
  · simp only [Q.is_bind', Q.is_of, Q.is_pure] at hq
    obtain ⟨y, hy, rfl⟩ := hq
    refine fin (Loc.refl s) fun s' r' he e => ?_
    subst e
    simp only [St.giveQ, Q.is_bind', atQ_is]
    exact ⟨_, he, by simp only [Q.is_bind', Q.is_of, Q.is_pure]; exact ⟨y, hy, rfl⟩⟩
  · simp only [Q.is_bind', Q.is_of, Q.is_pure] at hq
    obtain ⟨y, hy, rfl⟩ := hq
    refine fin (Loc.refl s) fun s' r' he e => ?_
    subst e
    simp only [St.giveQ, Q.is_bind', atQ_is]
    exact ⟨_, he, by simp only [Q.is_bind', Q.is_of, Q.is_pure]; exact ⟨y, hy, rfl⟩⟩
  all_goals
    cases flat
  · simp only [cond_false, Q.is_bind', Q.is_of, Q.is_pure] at hq
    obtain ⟨z, ht, y, hy, rfl⟩ := hq
    refine fin ((take_loc ht).sub (fun o ho => by cases ho)) fun s' r' he e => ?_
    simp only [St.giveQ, Q.is_bind', atQ_is]
    exact ⟨_, he, by simp only [cond_false, Q.is_bind', Q.is_of, Q.is_pure]; exact ⟨_, e, y, hy, rfl⟩⟩
  · simp only [cond_true, Q.is_bind', Q.is_of, Q.is_pure] at hq
    obtain ⟨z, ht, y, hy, rfl⟩ := hq
    refine fin ((freeze_loc ht).sub (fun o ho => by cases ho)) fun s' r' he e => ?_
    simp only [St.giveQ, Q.is_bind', atQ_is]
    exact ⟨_, he, by simp only [cond_true, Q.is_bind', Q.is_of, Q.is_pure]; exact ⟨_, e, y, hy, rfl⟩⟩
  · simp only [cond_false, Q.is_bind', Q.is_of, Q.is_pure] at hq
    obtain ⟨z, ht, y, hy, u, hu, rfl⟩ := hq
    refine fin ((take_loc ht).sub (fun o ho => by cases ho)) fun s' r' he e => ?_
    simp only [St.giveQ, Q.is_bind', atQ_is]
    exact ⟨_, he, by simp only [cond_false, Q.is_bind', Q.is_of, Q.is_pure]; exact ⟨_, e, y, hy, u, hu, rfl⟩⟩
  · simp only [cond_true, Q.is_bind', Q.is_of, Q.is_pure] at hq
    obtain ⟨z, ht, y, hy, u, hu, rfl⟩ := hq
    refine fin ((freeze_loc ht).sub (fun o ho => by cases ho)) fun s' r' he e => ?_
    simp only [St.giveQ, Q.is_bind', atQ_is]
    exact ⟨_, he, by simp only [cond_true, Q.is_bind', Q.is_of, Q.is_pure]; exact ⟨_, e, y, hy, u, hu, rfl⟩⟩
theorem giveAll_loc : ∀ {parts : List (Nat × Operand)} {s : St} {t : Ty} {x : t.den} {sh : Sh} {path : Nat → Path} {r : Sh × t.den × St}, (s.giveAll sh t x path parts).Is r → Loc (parts.map (·.2)) s r.2.2 (fun s' r' => (s'.giveAll sh t x path parts).Is (r.1, r.2.1, r')) := by
  intro parts
  induction parts with
  | nil =>
    intro s t x sh path r hq
    simp only [St.giveAll, Q.is_ret] at hq
    subst hq
    exact (Loc.refl s).mono fun s' r' a b c e => by subst e; simp only [St.giveAll, Q.is_ret]
  | cons po rest ih =>
    intro s t x sh path r hq
    obtain ⟨i, o⟩ := po
    simp only [St.giveAll, Q.is_bind'] at hq
    obtain ⟨v0, hv, g, hg, q, hp, hq⟩ := hq
    refine (((giveQ_loc hg).sub (fun o ho => by simp at ho ⊢; exact .inl ho)).comp ((ih hq).sub (fun o ho => by rw [List.map_cons]; exact List.mem_cons_of_mem _ ho))).mono fun s' r' a b c ⟨r1, e1, e2⟩ => ?_
    simp only [St.giveAll, Q.is_bind']
    exact ⟨v0, hv, _, e1, q, hp, e2⟩
theorem giveEls_loc : ∀ {parts : List (Nat × Operand)} {s : St} {e : Ty} {flat : Bool} {sh : Option Sh} {l : List e.den} {r : Option Sh × List e.den × St}, (s.giveEls e flat sh l parts).Is r → Loc (parts.map (·.2)) s r.2.2 (fun s' r' => (s'.giveEls e flat sh l parts).Is (r.1, r.2.1, r')) := by
  intro parts
  induction parts with
  | nil =>
    intro s e flat sh l r hq
    simp only [St.giveEls, Q.is_ret] at hq
    subst hq
    exact (Loc.refl s).mono fun s' r' a b c e => by subst e; simp only [St.giveEls, Q.is_ret]
  | cons po rest ih =>
    intro s e flat sh l r hq
    obtain ⟨i, o⟩ := po
    simp only [St.giveEls, Q.is_bind'] at hq
    obtain ⟨g, hg, hq⟩ := hq
    have key : ∃ q : Q Unit, q.Is () ∧ (g.2.2.giveEls e flat (some g.1) (l.set i g.2.1) rest).Is r ∧ ∀ (s' r' : St), (s'.giveQ o e flat).Is (g.1, g.2.1, r') → ∀ r2, (r'.giveEls e flat (some g.1) (l.set i g.2.1) rest).Is (r.1, r.2.1, r2) → (s'.giveEls e flat sh l ((i, o) :: rest)).Is (r.1, r.2.1, r2) := by
      cases sh with
      | none =>
        simp only [Q.is_bind'] at hq
        obtain ⟨u, hu, v, hv, hq⟩ := hq
        exact ⟨.ret (), Q.is_ret.2 rfl, hq, fun s' r' e1 r2 e2 => by simp only [St.giveEls, Q.is_bind']; exact ⟨_, e1, u, hu, v, hv, e2⟩⟩
      | some w =>
        simp only [Q.is_bind'] at hq
        obtain ⟨u, hu, v, hv, hq⟩ := hq
        exact ⟨.ret (), Q.is_ret.2 rfl, hq, fun s' r' e1 r2 e2 => by simp only [St.giveEls, Q.is_bind']; exact ⟨_, e1, u, hu, v, hv, e2⟩⟩
    obtain ⟨_, _, hq, key⟩ := key
    exact (((giveQ_loc hg).sub (fun o ho => by simp at ho ⊢; exact .inl ho)).comp ((ih hq).sub (fun o ho => by rw [List.map_cons]; exact List.mem_cons_of_mem _ ho))).mono fun s' r' a b c ⟨r1, e1, e2⟩ => key s' r1 e1 r' e2
end Go.VM
/- Soundness, draws, part 2: each operation looks at its operands alone. -/
namespace Go.VM
variable {P : Program} {ty : Types}

theorem lay_loc (s : St) (d : Nat) (sh : Sh) (t : Ty) (x : t.den) : LocD [] (some d) s (s.lay d sh t x) (fun s' r' => r' = s'.lay d sh t x) := by
  have gen : LocD [] (some d) s ((s.newH d ⟨sh, t, x, false, false, true⟩).set d (.at (.rf d []))) (fun s' r' => r' = (s'.newH d ⟨sh, t, x, false, false, true⟩).set d (.at (.rf d []))) :=
    ((newH_loc (s := s) (h := d) (H := ⟨sh, t, x, false, false, true⟩) rfl).toSet d _).mono fun s' r' _ _ _ ⟨r1, e1, e2⟩ => by rw [e2, e1]
  cases sh
  case flat => exact ((Loc.refl s).toSet d (.at (.pv ⟨t, x⟩))).mono fun s' r' _ _ _ ⟨r1, e1, e2⟩ => by rw [e2, e1]; rfl
  all_goals exact gen
theorem Loc.compD {L : List Operand} {d : Option Nat} {s r t : St} {F G : St → St → Prop} (h : Loc L s r F) (k : LocD L d r t G) : LocD L d s t (fun s' t' => ∃ r', F s' r' ∧ G r' t') := by
  obtain ⟨m1, κ1, k1, g1, e1⟩ := h
  obtain ⟨m2, κ2, k2, g2, e2⟩ := k
  refine ⟨m1.trans m2, fun a => κ2 (κ1 a), (k1.later m2).comp k2, fun x hx => by rw [g2 x hx, g1, EV.map_map], fun s' a b c => ?_⟩
  obtain ⟨r', f1, n1, h1, x1⟩ := e1 s' a b c
  have k1' : Kap κ1 r' := fun a => (k1 a).imp _root_.id fun ⟨g, e, q⟩ => ⟨g, e, fun H' e' => q H' (by rw [← h1]; exact e')⟩
  obtain ⟨t', f2, n2, h2, y2, x2⟩ := e2 r' n1 h1 fun o ho => by rw [k1'.ev x1, k1.ev g1, c o ho]
  exact ⟨t', ⟨r', f1, f2⟩, n2, h2, y2, fun x hx => by rw [x2 x hx, x1, EV.map_map]⟩
theorem LocD.sub {L M : List Operand} {d : Option Nat} {s r : St} {F : St → St → Prop} (h : LocD L d s r F) (hs : ∀ o, o ∈ L → o ∈ M) : LocD M d s r F := by
  obtain ⟨m, κ, k, g, e⟩ := h
  exact ⟨m, κ, k, g, fun s' a b c => e s' a b fun o ho => c o (hs o ho)⟩
theorem nil_sub {M : List Operand} : ∀ o, o ∈ ([] : List Operand) → o ∈ M := fun _ h => nomatch h

theorem assignQ_loc {s s1 : St} {d : Nat} {T : TypeId} {x : Operand} (hq : (assignQ ty s d T (s.ev x)).Is s1) : LocD [x, .tmp d] (some d) s s1 (fun s' r' => (assignQ ty s' d T (s'.ev x)).Is r') := by
  have fin : ∀ {r' : St} {F : St → St → Prop}, LocD [x, .tmp d] (some d) s r' F → (∀ s' r'', (∀ h, s'.home? h = s.home? h) → s'.get d = s.get d → F s' r'' → (assignQ ty s' d T (s.ev x)).Is r'') → LocD [x, .tmp d] (some d) s r' (fun s' r'' => (assignQ ty s' d T (s'.ev x)).Is r'') := fun h1 h2 =>
    h1.mono fun s' r'' a b c e => by rw [c x (by simp)]; exact h2 s' r'' b (c (.tmp d) (by simp)) e
  have plain : ∀ {e}, s.set d e = s1 → (∀ s' : St, (∀ h, s'.home? h = s.home? h) → s'.get d = s.get d → (assignQ ty s' d T (s.ev x)).Is (s'.set d e)) → LocD [x, .tmp d] (some d) s s1 (fun s' r' => (assignQ ty s' d T (s'.ev x)).Is r') := by
    intro e h1 h2
    subst h1
    exact fin ((Loc.refl s).toSet d e) fun s' r' b c ⟨r1, e1, e2⟩ => by rw [e2, e1]; exact h2 s' b c
  generalize hev : s.ev x = ev at hq fin plain
  cases ev with
  | tup l => simp only [assignQ, Q.is_ret] at hq; exact plain hq fun s' _ _ => by simp only [assignQ, Q.is_ret]
  | fn f l => simp only [assignQ, Q.is_ret] at hq; exact plain hq fun s' _ _ => by simp only [assignQ, Q.is_ret]
  | «at» v =>
    cases v with
    | nils =>
      simp only [assignQ] at hq
      split at hq
      · rename_i t ht
        rw [Q.is_ret] at hq; subst hq
        exact fin (((newH_loc (s := s) (h := d) (H := ⟨.own t.deep, .sl t, [], false, false, true⟩) rfl).sub nil_sub).toSet d _) fun s' r' b c ⟨r1, e1, e2⟩ => by
          rw [e2, e1]; simp only [assignQ, ht, Q.is_ret]
      · simp only [Q.is_fail] at hq
    | rf h p =>
      simp only [assignQ] at hq
      cases hb : Nat.beq h d with
      | true => rw [hb] at hq; simp only [cond_true, Q.is_ret] at hq; exact plain hq fun s' _ _ => by simp only [assignQ, hb, cond_true, Q.is_ret]
      | false =>
        rw [hb] at hq
        simp only [cond_false] at hq
        cases p with
        | cons st p => simp only [Q.is_ret] at hq; exact plain hq fun s' _ _ => by simp only [assignQ, hb, cond_false, Q.is_ret]
        | nil =>
          simp only [Q.is_bind', homeQ_is] at hq
          obtain ⟨H, hH, hq⟩ := hq
          cases hio : (H.io || H.bx) with
          | true => rw [hio] at hq; simp only [cond_true, Q.is_ret] at hq; exact plain hq fun s' b _ => by simp only [assignQ, hb, cond_false, Q.is_bind', homeQ_is]; exact ⟨H, by rw [b]; exact hH, by rw [hio]; simp only [cond_true, Q.is_ret]⟩
          | false =>
            rw [hio] at hq
            simp only [cond_false, Q.is_ret] at hq
            subst hq
            have hne : h ≠ d := fun e => by rw [e, beq_iff.2 rfl] at hb; cases hb
            have hres : ∀ (s : St) g, (((((s.mapA (killH d)).mapA (ren h d)).setH h none).setH d (some (H.mark true))).set d (.at (.rf d []))).home? g = if d = g then some (H.mark true) else if h = g then none else s.home? g := fun s g => by
              rw [home?_set, home?_setH, home?_setH]; rfl
            refine fin (F := fun s' r' => r' = ((((s'.mapA (killH d)).mapA (ren h d)).setH h none).setH d (some (H.mark true))).set d (.at (.rf d []))) ⟨((((((Mild.refl s).mapA _).mapA _).setH h (fun _ e => by cases e)).setH d (fun _ e => by cases e; rfl)).set d _), fun a => ren h d (killH d a), .comp (.of (killH_ref d) fun H' e => by
                rw [hres, if_pos rfl] at e; cases e; rfl) (.of (ren_ref h d) fun H' e => by
                rw [hres, if_neg (Ne.symm hne), if_pos rfl] at e; cases e), fun y hy => ?_, fun s' a b c => ⟨_, rfl, a, fun g => by rw [hres, hres, b], fun y hy => by cases hy; rw [get_set, get_set, if_pos rfl, if_pos rfl], fun y hy => ?_⟩⟩ fun s' r' b c e => ?_
            · rw [get_set, if_neg (fun c => hy (by rw [c])), get_setH, get_setH, get_mapA _ _ rfl, get_mapA _ _ rfl, EV.map_map]
            · rw [get_set, if_neg (fun c => hy (by rw [c])), get_setH, get_setH, get_mapA _ _ rfl, get_mapA _ _ rfl, EV.map_map]
            · subst e
              simp only [assignQ, hb, cond_false, Q.is_bind', homeQ_is]
              exact ⟨H, by rw [b]; exact hH, by rw [hio]; simp only [cond_false, Q.is_ret]⟩
    | rg h p lo hi =>
      simp only [assignQ] at hq
      split at hq
      · rename_i h' heq
        cases hb : Nat.beq h h' with
        | false => rw [hb] at hq; simp only [cond_false, Q.is_ret] at hq; exact plain hq fun s' _ c => by simp only [assignQ, c, heq, hb, cond_false, Q.is_ret]
        | true =>
          rw [hb] at hq
          simp only [cond_true, Q.is_bind', Q.is_of, Q.is_pure] at hq
          obtain ⟨r, ht, y, hy, rfl⟩ := hq
          obtain ⟨m, hd⟩ := take_mild ht
          refine fin ((((take_loc ht).comp (newH_loc (h := d) (H := { r.1 with x := y }) hd)).sub nil_sub).toSet d (.at (.rf d []))) fun s' r' b c ⟨r1, ⟨r2, e1, e2⟩, e3⟩ => ?_
          rw [e3, e2]
          simp only [assignQ, c, heq, hb, cond_true, Q.is_bind', Q.is_of, Q.is_pure]
          exact ⟨_, e1, y, hy, rfl⟩
      · rename_i hno
        rw [Q.is_ret] at hq
        refine plain hq fun s' _ c => ?_
        simp only [assignQ, c, Q.is_ret]
    | _ => simp only [assignQ, Q.is_ret] at hq; exact plain hq fun s' _ _ => by simp only [assignQ, Q.is_ret]
theorem storeQ_loc {s s1 : St} {T : TypeId} {x y : Operand} (hq : (storeQ ty s T x y).Is s1) : LocD [x, y] none s s1 (fun s' r' => (storeQ ty s' T x y).Is r') := by
  simp only [storeQ, Q.is_bind', atQ_is] at hq
  obtain ⟨v, hv, hq⟩ := hq
  cases v <;> simp only [Q.is_fail] at hq
  rename_i h p
  simp only [Q.is_bind', isT_is] at hq
  obtain ⟨⟨sh0, tv⟩, hl, _, hT, hq⟩ := hq
  refine Loc.toD ?_
  split at hq
  · rename_i p' lo hi hm
    simp only [Q.is_bind', Q.is_of] at hq
    obtain ⟨_, hs, r, ht, yv, hy, hp⟩ := hq
    refine (((take_loc ht).comp (putP_loc hp)).sub nil_sub).mono fun s' r' a b c ⟨r1, e1, e2⟩ => ?_
    simp only [storeQ, Q.is_bind', atQ_is]
    refine ⟨_, by rw [c x (by simp)]; exact hv, ?_⟩
    simp only [Q.is_bind', isT_is]
    refine ⟨_, by rw [look_c (b h)]; exact hl, (), hT, ?_⟩
    rw [c y (by simp), hm]
    simp only [Q.is_bind', Q.is_of]
    exact ⟨(), hs, _, e1, yv, hy, e2⟩
  · rename_i hm
    simp only [Q.is_bind'] at hq
    obtain ⟨r, hg, s2, hs2, hp⟩ := hq
    have mid : Loc [x, y] r.2.2 s2 (fun s' r' => (bif Path.hasIdx p && r.1.isFlat && !sh0.isFlat then do let q ← s'.freeze h p; pure q.2 else .ret s' : Q St).Is r') := by
      cases hc : (Path.hasIdx p && r.1.isFlat && !sh0.isFlat) with
      | false => simp only [hc, cond_false, Q.is_ret] at hs2 ⊢; subst hs2; exact (Loc.refl _).mono fun s' r' _ _ _ e => e.symm
      | true =>
        simp only [hc, cond_true, Q.is_bind', Q.is_pure] at hs2 ⊢
        obtain ⟨q, hf, rfl⟩ := hs2
        exact ((freeze_loc hf).sub nil_sub).mono fun s' r' _ _ _ e => ⟨_, e, rfl⟩
    refine ((((giveQ_loc hg).sub (M := [x, y]) (fun o ho => by simp at ho ⊢; exact .inr ho)).comp mid).comp ((putP_loc hp).sub nil_sub)).mono fun s' r' a b c ⟨r2, ⟨r1, e1, e2⟩, e3⟩ => ?_
    simp only [storeQ, Q.is_bind', atQ_is]
    refine ⟨_, by rw [c x (by simp)]; exact hv, ?_⟩
    simp only [Q.is_bind', isT_is]
    refine ⟨_, by rw [look_c (b h)]; exact hl, (), hT, ?_⟩
    rw [c y (by simp), hm]
    simp only [Q.is_bind']
    exact ⟨_, e1, r2, e2, e3⟩
theorem appendQ_loc {s s1 : St} {d : Nat} {e : Ty} {x y : Operand} (hq : (appendQ s d e x y).Is s1) : LocD [x, y] (some d) s s1 (fun s' r' => (appendQ s' d e x y).Is r') := by
  simp only [appendQ, Q.is_bind', Q.is_must, Q.is_req, Q.is_pure] at hq
  obtain ⟨dx, hdx, g, hg, q, hq2, _, h1, _, h2, _, h3, rfl⟩ := hq
  have first : Loc [x, y] s g.2.2 (fun s' r' => (bif dx then s'.takeSl y e else do let m ← s'.seeSl y e; pure (Sh.flat, m, s') : Q (Sh × List e.den × St)).Is (g.1, g.2.1, r')) := by
    cases dx with
    | true => simp only [cond_true] at hg ⊢; exact (takeSl_loc hg).sub (fun o ho => by simp at ho ⊢; exact .inr ho)
    | false =>
      simp only [cond_false, Q.is_bind', Q.is_pure] at hg ⊢
      obtain ⟨m, hm, rfl⟩ := hg
      exact (Loc.refl s).mono fun s' r' a b c e => ⟨m, by rw [seeSl_c (c y (by simp)) b]; exact hm, by rw [e]⟩
  refine (((first.comp ((takeSl_loc hq2).sub (M := [x, y]) (fun o ho => by simp at ho ⊢; exact .inl ho))).comp ((newH_loc (h := d) rfl).sub nil_sub)).toSet d _).mono fun s' r' a b c ⟨r3, ⟨r2, ⟨r1, e1, e2⟩, e3⟩, e4⟩ => ?_
  rw [e4, e3]
  simp only [appendQ, Q.is_bind', Q.is_must, Q.is_req, Q.is_pure]
  exact ⟨dx, by rw [deepQ_c (c y (by simp)) b]; exact hdx, _, e1, _, e2, (), by rw [c x (by simp)]; rw [c y (by simp)]; exact h1, (), by rw [c x (by simp)]; rw [c y (by simp)]; exact h2, (), h3, by rw [c x (by simp)]; rw [c y (by simp)]⟩

/-! ### calls -/
theorem setAt_loc {s s1 : St} {h : Nat} {p : Path} {v : TV} (hq : (setAt s h p v).Is s1) : Loc [] s s1 (fun s' r' => (setAt s' h p v).Is r') := by
  simp only [setAt, Q.is_bind'] at hq
  obtain ⟨r, h1, h2⟩ := hq
  exact (putP_loc h2).mono fun s' r' a b c e => by simp only [setAt, Q.is_bind']; exact ⟨r, by rw [look_c (b h)]; exact h1, e⟩
theorem argA_loc {fz : Bool} {s : St} {v : At} {a : ArgT} {r : a.den × St} (hq : (argA fz s v a).Is r) : Loc [] s r.2 (fun s' r' => (argA fz s' v a).Is (r.1, r')) := by
  cases a with
  | pv t =>
    cases v <;> simp only [argA, Q.is_fail] at hq ⊢
    · simp only [Q.is_bind', Q.is_of, Q.is_pure] at hq ⊢
      obtain ⟨x, hx, rfl⟩ := hq
      exact (Loc.refl s).mono fun s' r' a b c e => ⟨x, hx, by rw [e]⟩
    · simp only [Q.is_bind', Q.is_of, Q.is_pure] at hq ⊢
      obtain ⟨x, hx, rfl⟩ := hq
      exact (Loc.refl s).mono fun s' r' a b c e => ⟨x, hx, by rw [e]⟩
    · cases fz
      · simp only [cond_false, Q.is_bind', Q.is_of, Q.is_pure] at hq ⊢
        obtain ⟨y, hy, x, hx, rfl⟩ := hq
        exact (Loc.refl s).mono fun s' r' a b c e => ⟨y, by rw [seeQ_c (b _)]; exact hy, x, hx, by rw [e]⟩
      · simp only [cond_true, Q.is_bind', Q.is_of, Q.is_pure] at hq ⊢
        obtain ⟨y, hy, x, hx, rfl⟩ := hq
        exact (freeze_loc hy).mono fun s' r' a b c e => ⟨_, e, x, hx, rfl⟩
    · cases fz
      · simp only [cond_false, Q.is_bind', Q.is_of, Q.is_pure] at hq ⊢
        obtain ⟨y, hy, x, hx, u, hu, rfl⟩ := hq
        exact (Loc.refl s).mono fun s' r' a b c e => ⟨y, by rw [seeQ_c (b _)]; exact hy, x, hx, u, hu, by rw [e]⟩
      · simp only [cond_true, Q.is_bind', Q.is_of, Q.is_pure] at hq ⊢
        obtain ⟨y, hy, x, hx, u, hu, rfl⟩ := hq
        exact (freeze_loc hy).mono fun s' r' a b c e => ⟨_, e, x, hx, u, hu, rfl⟩
  | cref t =>
    cases v <;> simp only [argA, Q.is_fail] at hq ⊢
    simp only [Q.is_bind', Q.is_of, Q.is_pure] at hq ⊢
    obtain ⟨x, hx, rfl⟩ := hq
    exact (Loc.refl s).mono fun s' r' a b c e => ⟨x, hx, by rw [e]⟩
  | io sh t =>
    cases v <;> simp only [argA, Q.is_fail] at hq ⊢
    simp only [Q.is_bind', Q.is_of, Q.is_pure, Q.is_must] at hq ⊢
    obtain ⟨y, hy, x, hx, _, h1, z, hz, rfl⟩ := hq
    refine (Loc.refl s).mono fun s' r' a b c e => ⟨y, by rw [look_c (b _)]; exact hy, x, hx, (), h1, ?_⟩
    obtain ⟨_, _, _, _, q⟩ := setAt_loc hz
    obtain ⟨z', hz', _⟩ := q s' a b c
    exact ⟨z', hz', by rw [e]⟩
  | ios sh t =>
    cases v <;> simp only [argA, Q.is_fail] at hq ⊢
    · simp only [Q.is_bind', Q.is_of, Q.is_pure, Q.is_must] at hq ⊢
      obtain ⟨y, hy, x, hx, _, h1, z, hz, rfl⟩ := hq
      refine (Loc.refl s).mono fun s' r' a b c e => ⟨y, by rw [look_c (b _)]; exact hy, x, hx, (), h1, ?_⟩
      obtain ⟨_, _, _, _, q⟩ := setAt_loc hz
      obtain ⟨z', hz', _⟩ := q s' a b c
      exact ⟨z', hz', by rw [e]⟩
    · simp only [Q.is_bind', Q.is_of, Q.is_pure, Q.is_must] at hq ⊢
      obtain ⟨y, hy, x, hx, u, hu, _, h1, z, hz, rfl⟩ := hq
      refine (Loc.refl s).mono fun s' r' a b c e => ⟨y, by rw [look_c (b _)]; exact hy, x, hx, u, hu, (), h1, ?_⟩
      obtain ⟨_, _, _, _, q⟩ := setAt_loc hz
      obtain ⟨z', hz', _⟩ := q s' a b c
      exact ⟨z', hz', by rw [e]⟩
  | mv sh t =>
    cases v <;> simp only [argA, Q.is_fail] at hq ⊢
    · simp only [Q.is_bind', Q.is_of, Q.is_pure, Q.is_must] at hq ⊢
      obtain ⟨x, hx, _, h1, rfl⟩ := hq
      exact (Loc.refl s).mono fun s' r' a b c e => ⟨x, hx, (), h1, by rw [e]⟩
    · simp only [Q.is_bind', Q.is_of, Q.is_pure, Q.is_must] at hq ⊢
      obtain ⟨y, hy, x, hx, _, h1, rfl⟩ := hq
      exact (take_loc hy).mono fun s' r' a b c e => ⟨_, e, x, hx, (), h1, rfl⟩
  | _ => cases v <;> simp only [argA, Q.is_fail] at hq
theorem argAs_loc {fz : Bool} : ∀ {l : List At} {s : St} {a : ArgT} {r : a.den × St}, (argAs fz s l a).Is r → Loc [] s r.2 (fun s' r' => (argAs fz s' l a).Is (r.1, r'))
  | [], s, a, r, hq => by
    cases a <;> simp only [argAs, Q.is_fail] at hq ⊢
    rw [Q.is_ret] at hq; subst hq
    exact (Loc.refl s).mono fun s' r' a b c e => by rw [e, Q.is_ret]
  | v :: l, s, a, r, hq => by
    cases a <;> simp only [argAs, Q.is_fail] at hq ⊢
    simp only [Q.is_bind', Q.is_pure] at hq ⊢
    obtain ⟨x, h1, y, h2, rfl⟩ := hq
    exact ((argA_loc h1).comp (argAs_loc h2)).mono fun s' r' a b c ⟨r1, e1, e2⟩ => ⟨_, e1, _, e2, rfl⟩
theorem args_loc {fz : Bool} : ∀ {l : List EV} {s : St} {a : ArgT} {r : a.den × St}, (args fz s l a).Is r → Loc [] s r.2 (fun s' r' => (args fz s' l a).Is (r.1, r'))
  | [], s, a, r, hq => by
    cases a <;> simp only [args, Q.is_fail] at hq ⊢
    rw [Q.is_ret] at hq; subst hq
    exact (Loc.refl s).mono fun s' r' a b c e => by rw [e, Q.is_ret]
  | .tup _ :: l, s, a, r, hq => by cases a <;> simp only [args, Q.is_fail] at hq
  | .at v :: l, s, a, r, hq => by
    cases a <;> simp only [args, Q.is_fail] at hq ⊢
    simp only [Q.is_bind', Q.is_pure] at hq ⊢
    obtain ⟨x, h1, y, h2, rfl⟩ := hq
    exact ((argA_loc h1).comp (args_loc h2)).mono fun s' r' a b c ⟨r1, e1, e2⟩ => ⟨_, e1, _, e2, rfl⟩
  | .fn g caps :: l, s, a, r, hq => by
    cases a <;> first | (simp only [args, Q.is_fail] at hq; done) | skip
    rename_i a b
    cases a <;> (try simp only [args, Q.is_fail] at hq)
    simp only [args, Q.is_bind', Q.is_pure, Q.is_must] at hq ⊢
    obtain ⟨_, h0, x, h1, y, h2, rfl⟩ := hq
    exact ((argAs_loc h1).comp (args_loc h2)).mono fun s' r' a b c ⟨r1, e1, e2⟩ => ⟨(), h0, _, e1, _, e2, rfl⟩
theorem backA_loc {s s1 : St} {v : At} {a : ArgT} {y : a.out} (hb : (backA s v a y).Is s1) : Loc [] s s1 (fun s' r' => (backA s' v a y).Is r') := by
  cases a with
  | pv t =>
    have hh : ∀ s, backA s v (.pv t) y = .ret s := fun s => by cases v <;> rfl
    simp only [hh, Q.is_ret] at hb ⊢; subst hb; exact (Loc.refl s).mono fun s' r' _ _ _ e => e.symm
  | cref t =>
    have hh : ∀ s, backA s v (.cref t) y = .ret s := fun s => by cases v <;> rfl
    simp only [hh, Q.is_ret] at hb ⊢; subst hb; exact (Loc.refl s).mono fun s' r' _ _ _ e => e.symm
  | mv sh t =>
    have hh : ∀ s, backA s v (.mv sh t) y = .ret s := fun s => by cases v <;> rfl
    simp only [hh, Q.is_ret] at hb ⊢; subst hb; exact (Loc.refl s).mono fun s' r' _ _ _ e => e.symm
  | io sh t =>
    cases v <;> simp only [backA, Q.is_fail] at hb ⊢
    exact setAt_loc hb
  | ios sh t =>
    cases v <;> simp only [backA, Q.is_fail] at hb ⊢
    · exact setAt_loc hb
    · simp only [Q.is_bind'] at hb ⊢
      obtain ⟨x, h1, z, h2, u, h3, hb⟩ := hb
      exact (setAt_loc hb).mono fun s' r' a b c e => ⟨x, by rw [look_c (b _)]; exact h1, z, h2, u, h3, e⟩
  | _ => cases v <;> simp only [backA, Q.is_fail] at hb
theorem backAs_loc : ∀ {v : List At} {a : ArgT} {y : a.out} {s s1 : St}, (backAs s v a y).Is s1 → Loc [] s s1 (fun s' r' => (backAs s' v a y).Is r')
  | [], a, y, s, s1, hb => by
    cases a <;> simp only [backAs, Q.is_fail] at hb ⊢
    rw [Q.is_ret] at hb; subst hb; exact (Loc.refl s).mono fun s' r' _ _ _ e => by rw [e, Q.is_ret]
  | v :: r, a, y, s, s1, hb => by
    cases a <;> simp only [backAs, Q.is_fail] at hb ⊢
    simp only [Q.is_bind'] at hb ⊢
    obtain ⟨s2, h1, h2⟩ := hb
    exact ((backA_loc h1).comp (backAs_loc h2)).mono fun s' r' _ _ _ ⟨r1, e1, e2⟩ => ⟨r1, e1, e2⟩
theorem back_loc : ∀ {v : List EV} {a : ArgT} {y : a.out} {s s1 : St}, (back s v a y).Is s1 → Loc [] s s1 (fun s' r' => (back s' v a y).Is r')
  | [], a, y, s, s1, hb => by
    cases a <;> simp only [back, Q.is_fail] at hb ⊢
    rw [Q.is_ret] at hb; subst hb; exact (Loc.refl s).mono fun s' r' _ _ _ e => by rw [e, Q.is_ret]
  | .tup _ :: r, a, y, s, s1, hb => by cases a <;> simp only [back, Q.is_fail] at hb
  | .at v :: r, a, y, s, s1, hb => by
    cases a <;> simp only [back, Q.is_fail] at hb ⊢
    simp only [Q.is_bind'] at hb ⊢
    obtain ⟨s2, h1, h2⟩ := hb
    exact ((backA_loc h1).comp (back_loc h2)).mono fun s' r' _ _ _ ⟨r1, e1, e2⟩ => ⟨r1, e1, e2⟩
  | .fn f caps :: r, a, y, s, s1, hb => by
    cases a <;> first | (simp only [back, Q.is_fail] at hb; done) | skip
    rename_i a b
    cases a <;> (try simp only [back, Q.is_fail] at hb)
    simp only [back, Q.is_bind'] at hb ⊢
    obtain ⟨s2, h1, h2⟩ := hb
    exact ((backAs_loc h1).comp (back_loc h2)).mono fun s' r' _ _ _ ⟨r1, e1, e2⟩ => ⟨r1, e1, e2⟩
theorem layRets_loc : ∀ {r : RetT} {x : r.den} {s : St} {d i : Nat}, Loc [] s (layRets s d i r x).1 (fun s' r' => layRets s' d i r x = (r', (layRets s d i r x).2))
  | .nil, _, s, _, _ => (Loc.refl s).mono fun s' r' _ _ _ e => by rw [e]; rfl
  | .cons sh t r, x, s, d, i => by
    have gen : Loc [] s (layRets (s.newH (retId d i) ⟨sh, t, x.1, false, false, true⟩) d (i + 1) r x.2).1 (fun s' r' => layRets (s'.newH (retId d i) ⟨sh, t, x.1, false, false, true⟩) d (i + 1) r x.2 = (r', (layRets (s.newH (retId d i) ⟨sh, t, x.1, false, false, true⟩) d (i + 1) r x.2).2)) :=
      ((newH_loc (h := retId d i) (H := ⟨sh, t, x.1, false, false, true⟩) rfl).comp (layRets_loc (r := r) (x := x.2) (d := d) (i := i + 1))).mono fun s' r' _ _ _ ⟨r1, e1, e2⟩ => by rw [← e1]; exact e2
    cases sh
    case flat => exact (layRets_loc (r := r) (x := x.2) (d := d) (i := i + 1)).mono fun s' r' _ _ _ e => by simp only [layRets, e]
    all_goals exact gen.mono fun s' r' _ _ _ e => by simp only [layRets, e]
theorem layRet_loc {r : RetT} {x : r.den} {s : St} {d : Nat} : LocD [] (some d) s (layRet s d r x) (fun s' r' => r' = layRet s' d r x) := by
  have m := layRets_loc (r := r) (x := x) (s := s) (d := d) (i := 0)
  unfold layRet
  generalize layRets s d 0 r x = q at m
  obtain ⟨s1, l⟩ := q
  match l with
  | [] => exact (m.toSet d _).mono fun s' r' _ _ _ ⟨r1, e1, e2⟩ => by rw [e1, e2]
  | [a] => exact (m.toSet d _).mono fun s' r' _ _ _ ⟨r1, e1, e2⟩ => by rw [e1, e2]
  | _ :: _ :: _ => exact (m.toSet d _).mono fun s' r' _ _ _ ⟨r1, e1, e2⟩ => by rw [e1, e2]
variable {cx : Nat → Inst} {call : (j : Nat) → (cx j).args.den → Option (cx j).res}
theorem callQ_loc {s s1 : St} {d : Option Nat} {j f : Nat} {evs : List EV} (hq : (callQ cx call s d j f evs).Is s1) : LocD [] d s s1 (fun s' r' => (callQ cx call s' d j f evs).Is r') := by
  simp only [callQ, Q.is_bind', Q.is_must, Bool.and_eq_true, Q.is_op] at hq
  obtain ⟨_, h0, ⟨x, s2⟩, hargs, r, hcall, s3, hback, hq⟩ := hq
  have first := (args_loc hargs).comp (back_loc hback)
  cases d with
  | none =>
    simp only [Q.is_pure] at hq
    subst hq
    refine first.toD.mono fun s' r' _ _ _ ⟨r1, e1, e2⟩ => ?_
    simp only [callQ, Q.is_bind', Q.is_must, Bool.and_eq_true, Q.is_op]
    exact ⟨(), h0, _, e1, r, hcall, _, e2, by simp only [Q.is_pure]⟩
  | some d =>
    simp only [Q.is_pure] at hq
    subst hq
    refine (first.compD layRet_loc).mono fun s' r' _ _ _ ⟨r2, ⟨r1, e1, e2⟩, e3⟩ => ?_
    simp only [callQ, Q.is_bind', Q.is_must, Bool.and_eq_true, Q.is_op]
    exact ⟨(), h0, _, e1, r, hcall, _, e2, by simp only [Q.is_pure]; exact e3.symm⟩

/-! ### an operation as a whole -/
theorem mem_opArgs_build {o : Oper} {p : List (Nat × Operand)} {q : Operand} (h : q ∈ p.map (·.2)) (ho : opArgs o = p.map (·.2)) : q ∈ opArgs o := by rw [ho]; exact h
theorem opQ_loc {calls : List (Nat × Nat)} {i : Nat} {o : Oper} {s r : St} (hp : pureOp o.op = false) (hq : (opQ ty cx call calls i o s).Is r) :
    LocD (opArgs o) o.dst s r (fun s' r' => (opQ ty cx call calls i o s').Is r') := by
  obtain ⟨dst, op, T0, pos, aft, grd⟩ := o
  cases op with
  | store T x y =>
    simp only [opQ] at hq ⊢
    cases dst with
    | some d => simp only [Q.is_fail] at hq
    | none => exact storeQ_loc hq
  | call c =>
    obtain ⟨callee, cargs, ctypes⟩ := c
    cases callee with
    | value f =>
      simp only [opQ] at hq ⊢
      split at hq
      · rename_i g caps hg
        have hh : ∀ {s' r' : St}, (∀ h, s'.home? h = s.home? h) → s'.n = s.n → (∀ o, o ∈ opArgs (⟨dst, .call ⟨.value f, cargs, ctypes⟩, T0, pos, aft, grd⟩ : Oper) → s'.ev o = s.ev o) → cargs.toList.map s'.ev = cargs.toList.map s.ev ∧ s'.ev f = .fn g caps := by
          intro s' r' b n c
          refine ⟨List.map_congr_left fun x hx => c x ?_, by rw [c f (by simp [opArgs])]; exact hg⟩
          simp only [opArgs, List.mem_append]; exact .inr hx
        cases dst with
        | none =>
          simp only [Q.is_bind', Q.is_ret, Q.is_of] at hq
          obtain ⟨_, _, j, hj, hq⟩ := hq
          refine ((callQ_loc hq).sub nil_sub).mono fun s' r' n b c e => ?_
          obtain ⟨e1, e2⟩ := hh (r' := r') b n c
          simp only [e2, Q.is_bind', Q.is_ret, Q.is_of]
          exact ⟨(), trivial, j, hj, by rw [e1]; exact e⟩
        | some d =>
          simp only [Q.is_bind', Q.is_must, Q.is_of] at hq
          obtain ⟨_, hd, j, hj, hq⟩ := hq
          refine ((callQ_loc hq).sub nil_sub).mono fun s' r' n b c e => ?_
          obtain ⟨e1, e2⟩ := hh (r' := r') b n c
          simp only [e2, Q.is_bind', Q.is_must, Q.is_of]
          exact ⟨(), by rw [n]; exact hd, j, hj, by rw [e1]; exact e⟩
      · simp only [Q.is_fail] at hq
    | invoke x m => simp only [opQ, Q.is_fail] at hq
    | builtin b =>
      simp only [opQ, Q.is_bind'] at hq ⊢
      obtain ⟨d, hd, hq⟩ := hq
      obtain ⟨h1, h2⟩ := dstQ_is hd
      simp only at h1
      subst h1
      have dq : ∀ {s' : St}, s'.n = s.n → (dstQ s' (⟨some d, .call ⟨.builtin b, cargs, ctypes⟩, T0, pos, aft, grd⟩ : Oper)).Is d := fun n => by
        simp only [dstQ, Q.is_bind', Q.is_must, Q.is_pure]; exact ⟨(), by rw [n]; simpa [Nat.blt_eq] using h2, trivial⟩
      cases b <;> (try simp only [builtinQ, Q.is_fail] at hq) <;> (try (simp [pureOp] at hp; done))
      split at hq <;> simp only [Q.is_fail, Q.is_bind', Q.is_of, Option.bind_eq_some_iff] at hq
      rename_i x y T U rr ha hT
      obtain ⟨e, he, u, hU, hq⟩ := hq
      refine ((appendQ_loc hq).sub (M := opArgs (⟨some d, .call ⟨.builtin .append, cargs, ctypes⟩, T0, pos, aft, grd⟩ : Oper)) (fun o ho => by simp only [opArgs]; rw [ha]; exact ho)).mono fun s' r' n b c e' => ?_
      refine ⟨d, dq n, ?_⟩
      simp only [builtinQ, ha, hT, Q.is_bind', Q.is_of, Option.bind_eq_some_iff]
      exact ⟨e, he, u, hU, e'⟩
  | assign x =>
    simp only [opQ, Q.is_bind', op1Q] at hq ⊢
    obtain ⟨d, hd, hq⟩ := hq
    obtain ⟨h1, h2⟩ := dstQ_is hd
    simp only at h1
    subst h1
    refine ((assignQ_loc hq).sub (M := opArgs (⟨some d, .assign x, T0, pos, aft, grd⟩ : Oper)) (fun o ho => by simpa [opArgs] using ho)).mono fun s' r' n b c e => ⟨d, ?_, e⟩
    simp only [dstQ, Q.is_bind', Q.is_must, Q.is_pure]; exact ⟨(), by rw [n]; simpa [Nat.blt_eq] using h2, trivial⟩
  | alloc T =>
    simp only [opQ, Q.is_bind', op1Q, Q.is_of, Q.is_pure] at hq ⊢
    obtain ⟨d, hd, t, ht, rfl⟩ := hq
    obtain ⟨h1, h2⟩ := dstQ_is hd
    simp only at h1
    subst h1
    refine (((newH_loc (h := d) (H := ⟨t.deep, t, t.zero, true, false, true⟩) rfl).sub nil_sub).toSet d _).mono fun s' r' n b c ⟨r1, e1, e2⟩ => ⟨d, ?_, t, ht, by rw [e2, e1]⟩
    simp only [dstQ, Q.is_bind', Q.is_must, Q.is_pure]; exact ⟨(), by rw [n]; simpa [Nat.blt_eq] using h2, trivial⟩
  | box T x =>
    simp only [opQ, Q.is_bind', op1Q, Q.is_of, Q.is_pure] at hq ⊢
    obtain ⟨d, hd, t, ht, g, hg, rfl⟩ := hq
    obtain ⟨h1, h2⟩ := dstQ_is hd
    simp only at h1
    subst h1
    refine (((giveQ_loc hg).comp ((newH_loc (h := d) (H := ⟨g.1, t, g.2.1, true, false, true⟩) rfl).sub nil_sub)).toSet d (.at (.ptr d []))).mono fun s' r' n b c ⟨r1, ⟨r2, e1, e2⟩, e3⟩ => ⟨d, ?_, t, ht, _, e1, by rw [e3, e2]⟩
    simp only [dstQ, Q.is_bind', Q.is_must, Q.is_pure]; exact ⟨(), by rw [n]; simpa [Nat.blt_eq] using h2, trivial⟩
  | build T parts =>
    simp only [opQ, Q.is_bind', op1Q, Q.is_of, Q.is_must, Q.is_pure] at hq ⊢
    obtain ⟨d, hd, t, ht, u, hu, g, hg, rfl⟩ := hq
    obtain ⟨h1, h2⟩ := dstQ_is hd
    simp only at h1
    subst h1
    refine ((giveAll_loc hg).compD ((lay_loc g.2.2 d g.1 t g.2.1).sub nil_sub)).mono fun s' r' n b c ⟨r2, e1, e2⟩ => ⟨d, ?_, t, ht, (), hu, _, e1, by rw [e2]⟩
    simp only [dstQ, Q.is_bind', Q.is_must, Q.is_pure]; exact ⟨(), by rw [n]; simpa [Nat.blt_eq] using h2, trivial⟩
  | buildSlice T k parts =>
    simp only [opQ, Q.is_bind', op1Q, Q.is_of, Q.is_must, Q.is_pure] at hq ⊢
    obtain ⟨d, hd, t, ht, u, hu, g, hg, rfl⟩ := hq
    obtain ⟨h1, h2⟩ := dstQ_is hd
    simp only at h1
    subst h1
    have hfl : ∀ {s' : St}, (∀ h, s'.home? h = s.home? h) → (∀ o, o ∈ parts.toList.map (·.2) → s'.ev o = s.ev o) → (parts.toList.all fun p => s'.ownedOp p.2) = (parts.toList.all fun p => s.ownedOp p.2) := by
      intro s' b c
      rw [Bool.eq_iff_iff, List.all_eq_true, List.all_eq_true]
      exact forall₂_congr fun p hp => by rw [ownedOp_c (c p.2 (List.mem_map.2 ⟨p, hp, rfl⟩)) b]
    refine (((giveEls_loc hg).comp ((newH_loc (h := d) (H := ⟨.own (g.1.getD t.deep), .sl t, g.2.1, false, false, true⟩) rfl).sub nil_sub)).toSet d (.at (.rf d []))).mono fun s' r' n b c ⟨r1, ⟨r2, e1, e2⟩, e3⟩ => ⟨d, ?_, t, ht, (), hu, (g.1, g.2.1, r2), by rw [hfl b c]; exact e1, by rw [e3, e2]⟩
    simp only [dstQ, Q.is_bind', Q.is_must, Q.is_pure]; exact ⟨(), by rw [n]; simpa [Nat.blt_eq] using h2, trivial⟩
  | makeSlice T x y =>
    simp only [opQ, Q.is_bind', op1Q, Q.is_of, Q.is_req, Q.is_pure] at hq ⊢
    obtain ⟨d, hd, t, ht, k, hk, l, hl, u, hu, rfl⟩ := hq
    obtain ⟨h1, h2⟩ := dstQ_is hd
    simp only at h1
    subst h1
    refine (((newH_loc (h := d) rfl).sub nil_sub).toSet d (.at (.rf d []))).mono fun s' r' n b c ⟨r1, e1, e2⟩ => ⟨d, ?_, t, ht, k, by rw [intQ_c (c x (by simp [opArgs]))]; exact hk, l, by rw [intQ_c (c y (by simp [opArgs]))]; exact hl, u, hu, by rw [e2, e1]⟩
    simp only [dstQ, Q.is_bind', Q.is_must, Q.is_pure]; exact ⟨(), by rw [n]; simpa [Nat.blt_eq] using h2, trivial⟩
  | makeMap T r =>
    cases r with
    | some _ => simp only [opQ, Q.is_bind', op1Q, Q.is_fail, and_false, exists_false] at hq
    | none =>
    simp only [opQ, Q.is_bind', op1Q, Q.is_of, Q.is_pure] at hq ⊢
    obtain ⟨d, hd, t, ht, rfl⟩ := hq
    obtain ⟨h1, h2⟩ := dstQ_is hd
    simp only at h1
    subst h1
    refine (((newH_loc (h := d) rfl).sub nil_sub).toSet d (.at (.rf d []))).mono fun s' r' n b c ⟨r1, e1, e2⟩ => ⟨d, ?_, t, ht, by rw [e2, e1]⟩
    simp only [dstQ, Q.is_bind', Q.is_must, Q.is_pure]; exact ⟨(), by rw [n]; simpa [Nat.blt_eq] using h2, trivial⟩
  | mapUpdate T m x y =>
    simp only [opQ] at hq ⊢
    cases dst with
    | some d => simp only [Q.is_fail] at hq
    | none =>
      simp only [mapUpdQ, Q.is_bind', atQ_is] at hq ⊢
      obtain ⟨v, hv, hq⟩ := hq
      cases v <;> simp only [Q.is_fail] at hq
      rename_i g p
      simp only [Q.is_bind', Q.is_must, Q.is_of] at hq
      obtain ⟨r0, h0, _, h1, l, h2, _, h3, _, h4, kv, h5, kx, h6, xv, h7, yx, h8, hp2⟩ := hq
      refine ((putP_loc hp2).sub nil_sub).toD.mono fun s' r' n b c e => ⟨_, by rw [c m (by simp [opArgs])]; exact hv, ?_⟩
      simp only [Q.is_bind', Q.is_must, Q.is_of]
      exact ⟨r0, by rw [look_c (b _)]; exact h0, (), h1, l, h2, (), h3, (), h4, kv, by rw [tvQ_c (c x (by simp [opArgs]))]; exact h5, kx, h6, xv, by rw [tvQ_c (c y (by simp [opArgs]))]; exact h7, yx, h8, e⟩
  | slice T x lo hi mx =>
    cases mx with
    | none => simp [pureOp] at hp
    | some _ => simp only [opQ, Q.is_bind', op1Q, Q.is_fail, and_false, exists_false] at hq
  | _ => first
    | (simp [pureOp] at hp; done)
    | (simp only [opQ, Q.is_bind', op1Q, Q.is_fail, and_false, exists_false] at hq; done)
    | (simp only [opQ, op1Q] at hq; obtain ⟨_, _, h⟩ := Q.is_bind'.1 hq; simp only [op1Q, Q.is_fail] at h)
end Go.VM
