/- A symbolic evaluator of functions, proved sound against the model. Conditions: none beyond those of the given statement. -/
import Derived.Test.YtcdpapgkgiifjaaDoorSx2
import Derived.Below
set_option linter.unusedVariables false
set_option linter.unusedSimpArgs false
section
namespace Go.Sx
open Go
variable {P : Program} {E : Env} {n k : Nat}

/-- operations of a region, in a row -/
def RunOps (P : Program) (ops : Array Oper) (is : List Nat) (K : Act → World → Prop) (a : Act) (w : World) : Prop :=
  ∀ Q : Exit → Act → World → Prop, (∀ a w, K a w → Q .normal a w) → wpOps P ops Q is a w
/-- a way through a region: what it doesn't write stays -/
def GoesO (P : Program) (n k : Nat) (W : List Nat) (R : (Act → World → Prop) → Act → World → Prop) (fr : Fr) (M : List Blk) (fr' : Fr) (M' : List Blk) : Prop :=
  ∀ (w0 : Base P) F Hp hs w a (K : Act → World → Prop), StI n k w0 F Hp hs fr M w a →
    (∀ Hp' hs' w' a', Hp.le Hp' → HL hs hs' → StI n k w0 F Hp' hs' fr' M' w' a' → (∀ t, t ∉ W → a'.tmps.getD t undef = a.tmps.getD t undef) → K a' w') → R K a w
theorem pin_of_HL {k : Nat} {hs hs' : List Value} (hk : k ≤ hs.length) (h : HL hs hs') : ∀ i : Nat, i < k → hs'[i]? = hs[i]? := by
  intro i hi
  have e : hs[i]? = some hs[i] := List.getElem?_eq_getElem (by omega)
  rw [e]; exact h i _ e
theorem GoesO.goes {W : List Nat} {R : (Act → World → Prop) → Act → World → Prop} {fr fr' : Fr} {M M' : List Blk} (h : GoesO P n k W R fr M fr' M') : Goes P n k R fr M fr' M' :=
  fun w0 F Hp hs w a K hst hk => h w0 F Hp hs w a K hst fun Hp' hs' w' a' hle hl hst' _ => hk Hp' hs' w' a' hle (pin_of_HL hst.kl hl) hst'
def dstsN : List Oper → List Nat
  | [] => []
  | o :: r => match o.dst with
    | some d => d :: dstsN r
    | none => dstsN r
theorem not_dsts {o : Oper} {r : List Oper} {t : Nat} (h : t ∉ dstsN (o :: r)) : o.dst ≠ some t ∧ t ∉ dstsN r := by
  cases hd : o.dst with
  | none => simp only [dstsN, hd] at h; exact ⟨by simp, h⟩
  | some d =>
    simp only [dstsN, hd, List.mem_cons, not_or] at h
    exact ⟨fun e => h.1 (Option.some.inj e).symm, h.2⟩
theorem put_other {a : Act} {dst : Option Tmp} {v : Value} {t : Nat} (h : dst ≠ some t) : (a.put dst v).tmps.getD t undef = a.tmps.getD t undef := by
  cases dst with
  | none => rfl
  | some d =>
    have hne : d ≠ t := fun e => h (by rw [e])
    simp only [Act.put]
    rw [Array.getD_eq_getD_getElem?, Array.getD_eq_getD_getElem?, Array.getElem?_setIfInBounds_ne hne]
theorem StI.step {w0 : Base P} {F Hp : PH} {hs : List Value} {fr : Fr} {M : List Blk} {w : World} {a : Act} (h : StI n k w0 F Hp hs fr M w a) {o : Oper} {av : AV} {M' M'' : List Blk} {fr'' : Fr} (hs1 : StepOk P o (evO fr) M av M')
    (hput : ∀ (w0 : Base P) F Hp hs w a v, StI n k w0 F Hp hs fr M' w a → Rep F Hp hs av v → ∃ Hp', Hp.le Hp' ∧ StI n k w0 F Hp' hs fr'' M'' w (a.put o.dst v)) {next : Act → World → Prop} {Q : Exit → Act → World → Prop}
    (hn : ∀ Hp' hs' w' v, Hp.le Hp' → HL hs hs' → StI n k w0 F Hp' hs' fr'' M'' w' (a.put o.dst v) → next (a.put o.dst v) w') : o.wp P a w next Q := by
  refine hs1 w0 F Hp hs w a next Q h.inv (evO_rep h.tm) fun Hp' ex w' v hle hi hv => ?_
  obtain ⟨Hp'', hle2, hst⟩ := hput w0 F Hp' (hs ++ ex) w' a v (h.next hle hi) hv
  exact hn Hp'' _ w' v (hle.trans hle2) (HL.append _ _) hst
theorem evOps_okO (hE : EnvOk P E) {fz : List Nat} {ops : Array Oper} : ∀ (r : List Oper) (i : Nat), ops.toList.drop i = r → ∀ {fr : Fr} {M : List Blk} {K : Fr → List Blk → Prop}, evOps E n fz ops.toList r fr M K →
    ∃ fr' M', K fr' M' ∧ GoesO P n k (dstsN r) (RunOps P ops (List.range' i r.length)) fr M fr' M'
  | [], i, hd, fr, M, K, h => ⟨fr, M, h, fun w0 F Hp hs w a K hst hk Q hq => by
      simp only [List.length_nil, List.range'_zero, wpOps]
      exact hq _ _ (hk Hp hs w a (PH.le.refl _) (HL.refl _) hst (fun _ _ => rfl))⟩
  | o :: r, i, hd, fr, M, K, h => by
    have hoi : ops[i]? = some o := by
      rw [← Array.getElem?_toList]
      have := congrArg (fun l => l[0]?) hd
      simpa using this
    have hd' : ops.toList.drop (i + 1) = r := by
      have := congrArg (List.drop 1) hd
      simpa [List.drop_drop, Nat.add_comm] using this
    simp only [evOps] at h
    obtain ⟨fr1, ⟨hy, hw⟩ | ⟨hy, hw⟩⟩ := evGd_ok (n := n) (k := k) h
    · obtain ⟨av, M1, h2, hstep⟩ := evW_ok hE hy
      obtain ⟨fr2, M2, h3, hput⟩ := evPut_ok (P := P) (n := n) (k := k) h2
      obtain ⟨fr3, M3, hK, hgo⟩ := evOps_okO hE r (i + 1) hd' h3
      refine ⟨fr3, M3, hK, fun w0 F Hp hs w a K hst hk Q hq => ?_⟩
      obtain ⟨hst1, hwant⟩ := hw w0 F Hp hs w a hst
      simp only [List.length_cons, List.range'_succ, wpOps, hoi, hwant, if_true]
      refine .inl (hst1.step hstep hput fun Hp' hs' w' v hle hl hst' => ?_)
      exact hgo w0 F Hp' hs' w' _ _ hst' (fun Hp'' hs'' w'' a'' hle' hl' hst'' hsame => hk Hp'' hs'' w'' a'' (hle.trans hle') (hl.trans hl') hst''
        (fun t ht => by obtain ⟨q1, q2⟩ := not_dsts ht; rw [hsame t q2, put_other q1])) Q hq
    · obtain ⟨fr2, M2, h3, hput⟩ := evPut_ok (P := P) (n := n) (k := k) hy
      obtain ⟨fr3, M3, hK, hgo⟩ := evOps_okO hE r (i + 1) hd' h3
      refine ⟨fr3, M3, hK, fun w0 F Hp hs w a K hst hk Q hq => ?_⟩
      obtain ⟨hst1, hwant⟩ := hw w0 F Hp hs w a hst
      simp only [List.length_cons, List.range'_succ, wpOps, hoi, hwant, Bool.false_eq_true, if_false]
      obtain ⟨Hp', hle, hst'⟩ := hput w0 F Hp hs w a undef hst1 (.val _)
      exact hgo w0 F Hp' hs w _ _ hst' (fun Hp'' hs'' w'' a'' hle' hl' hst'' hsame => hk Hp'' hs'' w'' a'' (hle.trans hle') hl' hst''
        (fun t ht => by obtain ⟨q1, q2⟩ := not_dsts ht; rw [hsame t q2, put_other q1])) Q hq
/-- a region whose operations stand in a row -/
theorem evReg_ok (hE : EnvOk P E) {fz : List Nat} {ops : Array Oper} {fr : Fr} {M : List Blk} {K : Fr → List Blk → Prop} (h : evOps E n fz ops.toList ops.toList fr M K) :
    ∃ fr' M', K fr' M' ∧ GoesO P n k (dstsN ops.toList) (RunOps P ops (List.range ops.size)) fr M fr' M' := by
  obtain ⟨fr', M', hK, hgo⟩ := evOps_okO (k := k) hE ops.toList 0 rfl h
  refine ⟨fr', M', hK, ?_⟩
  rw [List.range_eq_range']
  simpa using hgo
end Go.Sx
end
section
namespace Go.Sx
open Go
variable {P : Program} {E : Env} {n k : Nat}

/-! a region whose operations are drawn: first those that leave what is owned alone, in any order; the others behind them, one by one -/
def aftN (o : Oper) : List Nat := (o.after.toList.filter fun e => Region.binds .any e).map (·.on)
theorem aftN_mem {o : Oper} {q : Nat} : q ∈ aftN o ↔ ∃ e ∈ o.after, Region.binds .any e = true ∧ e.on = q := by
  simp [aftN, and_assoc]
def belowAll : Nat → List Oper → Bool
  | _, [] => true
  | i, o :: r => match below i (aftN o) with
    | true => belowAll (i + 1) r
    | false => false
def noSel : List Oper → Bool
  | [] => true
  | o :: r => match o.op with
    | .select _ _ => false
    | _ => noSel r
theorem belowAll_ok : ∀ {l : List Oper} {i : Nat}, belowAll i l = true → ∀ m o, l[m]? = some o → ∀ q ∈ aftN o, q < i + m
  | [], i, _, m, s, h => by simp at h
  | t :: r, i, h, m, s, hm => by
    simp only [belowAll] at h
    split at h
    · rename_i hh
      cases m with
      | zero => simp at hm; subst hm; exact fun q hq => by simpa using below_ok hh q hq
      | succ m =>
        intro q hq
        have := belowAll_ok h m s (by simpa using hm) q hq
        omega
    · cases h

theorem range_cut {h m : Nat} (hle : h ≤ m) : List.range m = List.range h ++ List.range' h (m - h) := by
  obtain ⟨d, rfl⟩ := Nat.exists_eq_add_of_le hle
  rw [List.range_add, Nat.add_sub_cancel_left, List.range'_eq_map_range]
section
variable {ops : Array Oper} {Q : Exit → Act → World → Prop}
def Lst (listed : Array Bool) (j : Nat) : Prop := listed.getD j false = true
theorem unl {listed : Array Bool} {j : Nat} (hs : j < listed.size) : listed.getD j true = false ↔ ¬ Lst listed j := by
  unfold Lst
  simp [Array.getD, hs]
theorem ready_iff {listed : Array Bool} (hsz : listed.size = ops.size) {j : Nat} : j ∈ Region.ready .any ops listed ↔ ¬ Lst listed j ∧ ∃ o, ops[j]? = some o ∧ ∀ q ∈ aftN o, Lst listed q := by
  rw [mem_ready]
  constructor
  · rintro ⟨h0, o, ho, h⟩
    have hj : j < listed.size := by rw [hsz]; exact (Array.getElem?_eq_some_iff.1 ho).1
    refine ⟨(unl hj).1 h0, o, ho, fun q hq => ?_⟩
    obtain ⟨e, he, hb, rfl⟩ := aftN_mem.1 hq
    exact h e he hb
  · rintro ⟨h0, o, ho, h⟩
    have hj : j < listed.size := by rw [hsz]; exact (Array.getElem?_eq_some_iff.1 ho).1
    exact ⟨(unl hj).2 h0, o, ho, fun e he hb => h _ (aftN_mem.2 ⟨e, he, hb, rfl⟩)⟩
theorem lst_set {listed : Array Bool} {i j : Nat} (hi : i < listed.size) : Lst (listed.setIfInBounds i true) j ↔ j = i ∨ Lst listed j := by
  unfold Lst
  by_cases h : i = j
  · subst h; simp [hi]
  · rw [getD_set_ne false h]
    constructor
    · exact .inr
    · rintro (e | h')
      · exact absurd e.symm h
      · exact h'
/-- from a place on: what comes before it is done, and nothing else -/
def WA (P : Program) (ops : Array Oper) (Q : Exit → Act → World → Prop) (p : Nat) (a : Act) (w : World) : Prop :=
  ∀ (fuel : Nat) (listed : Array Bool), listed.size = ops.size → (∀ j, Lst listed j ↔ j < p) → ops.size - p ≤ fuel → wpAny P .any ops Q fuel listed a w
/-- all from a place on comes behind all that is before it -/
def Parted (ops : Array Oper) (p : Nat) : Prop := ∀ i o, p ≤ i → ops[i]? = some o → ∀ L : Nat → Prop, (∀ j o, ops[j]? = some o → L j → ∀ q ∈ aftN o, L q) → (∀ q ∈ aftN o, L q) → ∀ q < p, L q
def Backw (ops : Array Oper) : Prop := ∀ i o, ops[i]? = some o → ∀ q ∈ aftN o, q < i
theorem WA.fin {a : Act} {w : World} (h : Q .normal a w) : WA P ops Q ops.size a w := by
  intro fuel listed hsz hl hf
  have hr : Region.ready .any ops listed = [] := by
    apply List.eq_nil_iff_forall_not_mem.2
    intro j hj
    obtain ⟨h1, o, ho, _⟩ := (ready_iff hsz).1 hj
    exact h1 ((hl j).2 (Array.getElem?_eq_some_iff.1 ho).1)
  cases fuel with
  | zero => exact ⟨hr, h⟩
  | succ fuel => exact ⟨fun _ => h, fun i hi => by rw [hr] at hi; simp at hi⟩
/-- the first ones from a place on, in any order -/
theorem any_heads (p h : Nat) (hph : p ≤ h) (hle : h ≤ ops.size) (hch : Parted ops h) (hbel : Backw ops)
    (J : (Nat → Prop) → Act → World → Prop) (hJ : ∀ L L' a w, (∀ j, j < h → (L j ↔ L' j)) → J L a w → J L' a w)
    (hstep : ∀ i o L a w, p ≤ i → i < h → ops[i]? = some o → ¬ L i → (∀ q ∈ aftN o, L q) → J L a w → ∀ K : Act → World → Prop, (∀ a' w', J (fun j => j = i ∨ L j) a' w' → K a' w') → wpOp P ops Q i K a w)
    (hend : ∀ a w, J (fun j => j < h) a w → WA P ops Q h a w) :
    ∀ (fuel : Nat) (listed : Array Bool) (a : Act) (w : World), listed.size = ops.size → (∀ j, Lst listed j → j < h) → (∀ j, j < p → Lst listed j) → (∀ j o, ops[j]? = some o → Lst listed j → ∀ q ∈ aftN o, Lst listed q) →
      ((List.range ops.size).filter fun j => !listed.getD j true).length ≤ fuel → J (Lst listed) a w → wpAny P .any ops Q fuel listed a w := by
  intro fuel
  induction fuel with
  | zero =>
    intro listed a w hsz hlh hlp hcl hc hj
    have hall : ∀ j, j < ops.size → Lst listed j := by
      intro j hjs
      have h0 := List.length_eq_zero_iff.1 (Nat.le_zero.1 hc)
      have : j ∉ (List.range ops.size).filter fun j => !listed.getD j true := by rw [h0]; simp
      rw [List.mem_filter] at this
      apply Classical.byContradiction
      intro hn
      exact this ⟨List.mem_range.2 hjs, by rw [(unl (by omega)).2 hn]; rfl⟩
    have heq : h = ops.size := by
      apply Nat.le_antisymm hle
      apply Nat.le_of_not_lt; intro hc
      have := hlh _ (hall h hc); omega
    exact hend a w (hJ _ _ a w (fun j hjh => ⟨fun _ => hjh, fun _ => hall j (by omega)⟩) hj) 0 listed hsz (fun j => ⟨hlh j, fun hjh => hall j (by omega)⟩) (by omega)
  | succ fuel ih =>
    intro listed a w hsz hlh hlp hcl hc hj
    by_cases hall : ∀ j, j < h → Lst listed j
    · refine hend a w (hJ _ _ a w (fun j hjh => ⟨fun _ => hjh, fun _ => hall j hjh⟩) hj) (fuel + 1) listed hsz (fun j => ⟨hlh j, hall j⟩) (Nat.le_trans ?_ hc)
      -- the others are not listed
      have hsub : (List.range' h (ops.size - h)).length ≤ ((List.range ops.size).filter fun j => !listed.getD j true).length := by
        apply List.Sublist.length_le
        rw [range_cut hle, List.filter_append]
        have hself : (List.range' h (ops.size - h)).filter (fun j => !listed.getD j true) = List.range' h (ops.size - h) := by
          apply List.filter_eq_self.2
          intro j hjm
          obtain ⟨q, hq, rfl⟩ := List.mem_range'.1 hjm
          rw [(unl (by omega)).2 (fun hc => by have := hlh _ hc; omega)]; rfl
        rw [hself]
        exact List.sublist_append_right _ _
      simpa using hsub
    · -- one of the first ones is not listed: there is one that may come
      have hne : ∃ j, j < h ∧ ¬ Lst listed j := by
        apply Classical.byContradiction
        intro hn
        exact hall fun j hjh => Classical.byContradiction fun hc => hn ⟨j, hjh, hc⟩
      have hlow : ∃ j, j < h ∧ ¬ Lst listed j ∧ ∀ q < j, Lst listed q := by
        obtain ⟨j, hjh, hjl⟩ := hne
        induction j using Nat.strongRecOn with
        | _ j ihj =>
          by_cases hq : ∃ q < j, ¬ Lst listed q
          · obtain ⟨q, hq1, hq2⟩ := hq
            exact ihj q hq1 (by omega) hq2
          · exact ⟨j, hjh, hjl, fun q hq1 => Classical.byContradiction fun hc => hq ⟨q, hq1, hc⟩⟩
      refine ⟨fun hr => ?_, fun i hi => ?_⟩
      · exfalso
        obtain ⟨j, hjh, hjl, hq⟩ := hlow
        have hjs : j < ops.size := by omega
        have : j ∈ Region.ready .any ops listed := (ready_iff hsz).2 ⟨hjl, _, Array.getElem?_eq_getElem hjs, fun q hqa => hq q (hbel j _ (Array.getElem?_eq_getElem hjs) q hqa)⟩
        rw [hr] at this; simp at this
      · obtain ⟨h1, o, ho, h2⟩ := (ready_iff hsz).1 hi
        have his : i < listed.size := by rw [hsz]; exact (Array.getElem?_eq_some_iff.1 ho).1
        have hih : i < h := by
          apply Nat.lt_of_not_le
          intro hge
          obtain ⟨j, hjh, hjl, _⟩ := hlow
          exact hjl (hch i o hge ho (Lst listed) hcl h2 j hjh)
        have hpi : p ≤ i := by
          apply Nat.le_of_not_lt
          intro hlt
          exact h1 (hlp i hlt)
        refine hstep i o (Lst listed) a w hpi hih ho h1 h2 hj _ fun a' w' hJ' => ?_
        refine ih _ a' w' (by simpa using hsz) ?_ ?_ ?_ ?_ (hJ _ _ a' w' (fun j _ => (lst_set his).symm) hJ')
        · intro j hl
          rcases (lst_set his).1 hl with rfl | hl
          · exact hih
          · exact hlh j hl
        · intro j hjp
          exact (lst_set his).2 (.inr (hlp j hjp))
        · intro j oj hoj hl q hq
          rw [lst_set his]
          rcases (lst_set his).1 hl with rfl | hl
          · rw [ho] at hoj; cases hoj
            exact .inr (h2 q hq)
          · exact .inr (hcl j oj hoj hl q hq)
        · -- one fewer
          have : ((List.range ops.size).filter fun j => !(listed.setIfInBounds i true).getD j true).length < ((List.range ops.size).filter fun j => !listed.getD j true).length := by
            rw [← List.countP_eq_length_filter, ← List.countP_eq_length_filter]
            have hlt : i < ops.size := by omega
            have hsplit : List.range ops.size = List.range i ++ i :: List.range' (i + 1) (ops.size - (i + 1)) := by
              have : i :: List.range' (i + 1) (ops.size - (i + 1)) = List.range' i (ops.size - i) := by
                rw [show ops.size - i = (ops.size - (i + 1)) + 1 by omega, List.range'_succ]
              rw [this]
              exact range_cut (by omega)
            rw [hsplit, List.countP_append, List.countP_append, List.countP_cons, List.countP_cons]
            have e1 : ∀ l : List Nat, i ∉ l → l.countP (fun j => !(listed.setIfInBounds i true).getD j true) = l.countP (fun j => !listed.getD j true) := by
              intro l hl
              apply List.countP_congr
              intro j hjm
              rw [getD_set_ne true (fun e => hl (by rw [e]; exact hjm))]
            rw [e1 _ (by simp), e1 _ (by rw [List.mem_range']; omega)]
            have e2 : (!listed.getD i true) = true := by rw [(unl his).2 h1]; rfl
            have e3 : (!(listed.setIfInBounds i true).getD i true) = false := by simp [his]
            rw [e2, e3]
            simp
          omega
theorem unlisted_count {listed : Array Bool} {p : Nat} (hsz : listed.size = ops.size) (hl : ∀ j, Lst listed j ↔ j < p) (hp : p ≤ ops.size) : ((List.range ops.size).filter fun j => !listed.getD j true).length = ops.size - p := by
  rw [range_cut hp, List.filter_append]
  have h1 : (List.range p).filter (fun j => !listed.getD j true) = [] := by
    apply List.filter_eq_nil_iff.2
    intro j hj
    have hj := List.mem_range.1 hj
    have := (hl j).2 hj
    have hjs : j < listed.size := by omega
    intro hc
    have h2 : listed.getD j true = false := by simpa using hc
    exact (unl hjs).1 h2 this
  have h2 : (List.range' p (ops.size - p)).filter (fun j => !listed.getD j true) = List.range' p (ops.size - p) := by
    apply List.filter_eq_self.2
    intro j hjm
    obtain ⟨q, hq, rfl⟩ := List.mem_range'.1 hjm
    rw [(unl (by omega)).2 (fun hc => by have := (hl _).1 hc; omega)]; rfl
  rw [h1, h2]; simp
/-- a stretch of operations, in any order -/
theorem WA.seg (p h : Nat) (hph : p ≤ h) (hle : h ≤ ops.size) (hch : Parted ops h) (hbel : Backw ops)
    (J : (Nat → Prop) → Act → World → Prop) (hJ : ∀ L L' a w, (∀ j, j < h → (L j ↔ L' j)) → J L a w → J L' a w)
    (hstep : ∀ i o L a w, p ≤ i → i < h → ops[i]? = some o → ¬ L i → (∀ q ∈ aftN o, L q) → J L a w → ∀ K : Act → World → Prop, (∀ a' w', J (fun j => j = i ∨ L j) a' w' → K a' w') → wpOp P ops Q i K a w)
    (hend : ∀ a w, J (fun j => j < h) a w → WA P ops Q h a w) {a : Act} {w : World} (h0 : J (fun j => j < p) a w) : WA P ops Q p a w := by
  intro fuel listed hsz hl hf
  refine any_heads p h hph hle hch hbel J hJ hstep hend fuel listed a w hsz (fun j hj => by have := (hl j).1 hj; omega) (fun j hj => (hl j).2 hj) ?_ ?_ (hJ _ _ a w (fun j _ => (hl j).symm) h0)
  · intro j o ho hlj q hq
    have h1 := hbel j o ho q hq
    have h2 := (hl j).1 hlj
    exact (hl q).2 (by omega)
  · rw [unlisted_count hsz hl (by omega)]; exact hf
/-- one operation, behind all that is before it, and before all else -/
theorem WA.one (i : Nat) (hi : i < ops.size) (hch : Parted ops (i + 1)) (hbel : Backw ops) {a : Act} {w : World} (h : wpOp P ops Q i (WA P ops Q (i + 1)) a w) : WA P ops Q i a w := by
  intro fuel listed hsz hl hf
  have hready : ∀ j, j ∈ Region.ready .any ops listed ↔ j = i := by
    intro j
    rw [ready_iff hsz]
    constructor
    · rintro ⟨h1, o, ho, h2⟩
      have hij : i ≤ j := by
        apply Nat.le_of_not_lt; intro hc; exact h1 ((hl j).2 hc)
      apply Nat.le_antisymm _ hij
      apply Nat.le_of_not_lt; intro hc
      have := hch j o (by omega) ho (Lst listed) (fun j' o' ho' hl' q hq => (hl q).2 (by have := hbel j' o' ho' q hq; have := (hl j').1 hl'; omega)) h2 i (by omega)
      have := (hl i).1 this
      omega
    · rintro rfl
      refine ⟨fun hc => by have := (hl j).1 hc; omega, _, Array.getElem?_eq_getElem hi, fun q hq => (hl q).2 (hbel j _ (Array.getElem?_eq_getElem hi) q hq)⟩
  cases fuel with
  | zero => omega
  | succ fuel =>
    refine ⟨fun hr => ?_, fun j hj => ?_⟩
    · have := (hready i).2 rfl
      rw [hr] at this; simp at this
    · have := (hready j).1 hj
      subst this
      refine wpOp_mono (fun a w h' => ?_) h
      refine h' fuel _ (by simpa using hsz) (fun q => ?_) (by omega)
      rw [lst_set (by rw [hsz]; exact hi), hl]
      omega
end
end Go.Sx
end
section
namespace Go.Sx
open Go
variable {P : Program} {E : Env} {n k : Nat}

/-! a call whose answer is kept ags it is told -/
def immL (ML : List Blk) : AV → AV
  | .own n => match ML[n]? with
    | some (.arr k xs) => .sl k xs
    | _ => .top
  | .val v => .val v
  | .tt => .tt
  | .ff => .ff
  | .sl k xs => .sl k xs
  | .ifc T a => match a.plain1 with
    | true => .ifc T a
    | false => .top
  | _ => .top
def imm1 (ML : List Blk) : AV → AV
  | .agg cs => .agg (cs.map (immL ML))
  | x => immL ML x
def imm2 (ML : List Blk) : AV → AV
  | .tup cs => .tup (cs.map (imm1 ML))
  | x => imm1 ML x
theorem reps_map {F F' Hp Hp' : PH} {hs hs' : List Value} {f : AV → AV} (hf : ∀ {x : AV} {v : Value}, Rep F Hp hs x v → Rep F' Hp' hs' (f x) v) {l : List AV} {vs : List Value} (h : Reps F Hp hs l vs) : Reps F' Hp' hs' (l.map f) vs := by
  refine Reps.of_get (by rw [List.length_map]; exact h.length) fun i x u h1 h2 => ?_
  obtain ⟨x', e1, e2⟩ := h.getv i u h2
  rw [List.getElem?_map, e1] at h1; cases h1
  exact hf e2
theorem InvS.backI {w0 : Base P} {w w' : World} {F Hp Hp' : PH} {hs hsL : List Value} {M ML : List Blk} (hi : InvS w0 F Hp hs M w) (hle : Hp.le Hp') (hL : InvS w0 (lend F hs M [] w) Hp' hsL ML w') :
    ∃ Hp'', Hp.le Hp'' ∧ InvS w0 F Hp'' hs M w' ∧ ∀ {av : AV} {v : Value}, Rep (lend F hs M [] w) Hp' hsL av v → Rep F Hp'' hs (imm2 ML av) v := by
  let Hp'' : PH := fun b => match Hp' b with
    | some o => some o
    | none => open Classical in if ∃ (n : Nat) (k : Kd) (xs : List (El k)) (v : Value), ML[n]? = some (Blk.arr k xs) ∧ hsL[n]? = some v ∧ idOf v = some b then w'.heap[b]? else none
  have hle2 : Hp'.le Hp'' := fun b o h => by simp only [Hp'', h]
  have hinv : ∀ b o, Hp'' b = some o → Hp' b = some o ∨ (w'.heap[b]? = some o ∧ ∃ (n : Nat) (k : Kd) (xs : List (El k)) (v : Value), ML[n]? = some (Blk.arr k xs) ∧ hsL[n]? = some v ∧ idOf v = some b) := by
    intro b o h
    simp only [Hp''] at h
    split at h
    · rename_i o' h'; cases h; exact .inl h'
    · split at h
      · rename_i hx; exact .inr ⟨h, hx⟩
      · cases h
  have hF : ∀ {b : Nat}, lend F hs M [] w b = none → F b = none := by
    intro b hb
    cases hx : F b with
    | none => rfl
    | some o => rw [lend_le b o hx] at hb; cases hb
  have oth : ∀ {n : Nat} {blk : Blk} {v : Value} {b : Nat}, M[n]? = some blk → blk.live = true → hs[n]? = some v → idOf v = some b → w'.heap[b]? = w.heap[b]? ∧ lend F hs M [] w b ≠ none := by
    intro n blk v b h2 h3 h4 h5
    obtain ⟨o, ho⟩ := (hi.blk n blk v h2 h4).id h5 h3
    have e := lend_at hi (by simp) h2 h3 h4 h5 (ns := [])
    rw [ho] at e
    exact ⟨by rw [hL.fr b o e, ho], by rw [e]; simp⟩
  refine ⟨Hp'', hle.trans hle2, ⟨?_, fun b o h => hL.fr b o (lend_le b o h), ?_, hi.len, hi.one, ?_, ?_, hi.inj, hL.os, hL.tape, hL.output, hi.gl⟩, ?_⟩
  · intro b o h
    rcases hinv b o h with h | ⟨h, _⟩
    · exact hL.perm b o h
    · exact h
  · intro b
    cases hx : Hp'' b with
    | none => exact .inl rfl
    | some o =>
      refine .inr (hF ?_)
      rcases hinv b o hx with h | ⟨_, n, k, xs, v, h1, h2, h3⟩
      · rcases hL.pf b with g | g
        · rw [g] at h; cases h
        · exact g
      · exact (hL.own n _ v b h1 rfl h2 h3).2
  · intro n blk v h1 h2
    by_cases hl : blk.live = true
    · exact (hi.blk n blk v h1 h2).mono (PH.le.refl _) (hle.trans hle2) (HL.refl _) fun b hb => (oth h1 hl h2 hb).1
    · cases blk <;> simp [Blk.live] at hl
      trivial
  · intro n blk v b h1 hl h2 hb
    refine ⟨?_, (hi.own n blk v b h1 hl h2 hb).2⟩
    have hne := (oth h1 hl h2 hb).2
    cases hx : Hp'' b with
    | none => rfl
    | some o =>
      rcases hinv b o hx with h | ⟨_, m, k, xs, v', g1, g2, g3⟩
      · rcases hL.pf b with g | g
        · rw [g] at h; cases h
        · exact absurd g hne
      · exact absurd (hL.own m _ v' b g1 rfl g2 g3).2 hne
  · have h0 : ∀ {av : AV} {v : Value}, Rep (lend F hs M [] w) Hp' hsL av v → Rep F Hp'' hs (immL ML av) v := by
      intro av v h
      unfold immL
      split
      · rename_i n
        split
        · rename_i k xs hm
          cases h with
          | own _ _ hn =>
            obtain ⟨A, cap, rfl, q1, q2, q3, q4⟩ := hL.blk n _ _ hm hn
            cases A with
            | none =>
              have hc := q3 rfl
              have hx0 : xs = [] := List.length_eq_zero_iff.1 (by omega)
              subst hx0; subst hc
              exact Rep.nil_sl _
            | some a =>
              obtain ⟨b, T, c, rfl, g1, g2, g3⟩ := q4 a rfl
              refine sl_of q1 q2 (T := T) (c := c) ?_ (fun i x hx => enc_free (Reps.mono (PH.le.refl _) hle2 (HL.refl _) (g3 i x hx)))
              simp only [Hp'']
              have hown := (hL.own n _ _ b hm rfl hn rfl).1
              rw [hown]
              simp only
              rw [if_pos ⟨n, k, xs, _, hm, hn, rfl⟩, g1]
        · exact .top _
      · cases h.inv_val; exact .val _
      · cases h.inv_tt; exact .tt
      · cases h.inv_ff; exact .ff
      · exact Rep.mono (PH.le.refl _) hle2 (HL.refl _) (sl_free h)
      · split
        · rename_i hp
          cases h with | ifc _ _ _ h => exact .ifc _ _ _ (Rep.mono (PH.le.refl _) hle2 (HL.refl _) (plain1_free hp h))
        · exact .top _
      · exact .top _
    have h1 : ∀ {av : AV} {v : Value}, Rep (lend F hs M [] w) Hp' hsL av v → Rep F Hp'' hs (imm1 ML av) v := by
      intro av v h
      unfold imm1
      split
      · obtain ⟨vs, rfl, g⟩ := h.inv_agg
        exact .agg _ _ (reps_map h0 g)
      · exact h0 h
    intro av v h
    unfold imm2
    split
    · obtain ⟨vs, rfl, g⟩ := h.inv_tup
      exact .tup _ _ (reps_map h1 g)
    · exact h1 h
def evCallI (Γ : Cons) (f : FuncId) (ags : List AV) (M : List Blk) (K : AV → Prop) : Prop :=
  match Γ f with
  | some c => match startN c.md ags [] with
    | [] => locAs M [] c.md ags fun ags' => c.ev ags' [] fun av ML => K (imm2 ML av)
    | _ => False
  | none => False
theorem evCallI_ok {Γ : Cons} (hΓ : ConsOk P Γ) {f : FuncId} {ags : List AV} {M : List Blk} {K : AV → Prop} (h : evCallI Γ f ags M K) : ∃ av, K av ∧ ∀ (w0 : Base P) F Hp hs w vs, InvS w0 F Hp hs M w → Reps F Hp hs ags vs →
    Runs P f vs w fun v w' => ∃ Hp', Hp.le Hp' ∧ InvS w0 F Hp' hs M w' ∧ Rep F Hp' hs av v := by
  unfold evCallI at h
  split at h
  · rename_i c hc
    split at h
    · obtain ⟨ags', hJ, has⟩ := locAs_ok (ns := []) List.nodup_nil (by simp) _ _ _ h
      obtain ⟨av, ML, hK, hrun⟩ := hΓ f c hc _ _ _ hJ
      refine ⟨_, hK, fun w0 F Hp hs w vs hi hr => ?_⟩
      refine (hrun w0 _ Hp [] w vs (hi.lent List.nodup_nil (by simp)) (has w0 F Hp hs w vs hi hr)).mono ?_
      rintro v w' ⟨Hp', hsL, hle, hag, hL, hrep⟩
      obtain ⟨Hp'', q1, q2, q3⟩ := hi.backI hle hL
      exact ⟨Hp'', q1, q2, q3 hrep⟩
    · exact h.elim
  · exact h.elim

/-- an operation that leaves what is owned alone -/
def HStep (P : Program) (o : Oper) (ρ : Operand → AV) (M : List Blk) (av : AV) : Prop :=
  ∀ (w0 : Base P) F Hp hs w (a : Act) next Q, InvS w0 F Hp hs M w → (∀ x, Rep F Hp hs (ρ x) (a.eval x)) →
    (∀ Hp' w' v, Hp.le Hp' → InvS w0 F Hp' hs M w' → Rep F Hp' hs av v → next (a.put o.dst v) w') → o.wp P a w next Q
theorem HStep.of_ok {o : Oper} {ρ : Operand → AV} {M : List Blk} {av : AV} (h : OpOk P o ρ M av) : HStep P o ρ M av := by
  intro w0 F Hp hs w a next Q hi hr hn
  obtain ⟨v, Hp', w', h1, h2, h3, h4⟩ := h w0 F Hp hs w a.eval hi hr
  unfold Oper.wp
  rw [h1]
  exact hn Hp' w' v h2 h3 h4
def evH (E : Env) (op : Op) (ρ : Operand → AV) (M : List Blk) (K : AV → Prop) : Prop :=
  match op with
  | .buildSlice t len parts => evLitI E.ty t len (parts.toList.map fun p => (p.1, ρ p.2)) K
  | .makeInterface t x => evIface E.ty t (ρ x) K
  | .typeAssert x _ t ok => evAssert E.ty (ρ x) t ok K
  | .convert src dst x => match toSl E.ty dst with
    | true => evS2B E.ty src dst (ρ x) K
    | false => evR E.ty (.convert src dst x) ρ M K
  | .call { callee := .value g, args := xs, argTypes := _ } => match funcOf (ρ g) with
    | some f => evCallI E.Γ f (xs.toList.map ρ) M K
    | none => False
  | .call { callee := .invoke g nm, args := xs, argTypes := _ } => match ρ g with
    | .ifc T a => match E.mth T with
      | some (nm', f) => match decide (nm = nm') with
        | true => evCallI E.Γ f (a :: xs.toList.map ρ) M K
        | false => False
      | none => False
    | _ => False
  | op => evR E.ty op ρ M K
theorem evH_ok (hE : EnvOk P E) {o : Oper} {ρ : Operand → AV} {M : List Blk} {K : AV → Prop} (h : evH E o.op ρ M K) : ∃ av, K av ∧ HStep P o ρ M av := by
  obtain ⟨dst, op, type, pos, after, guard⟩ := o
  simp only at h
  unfold evH at h
  split at h
  · rename_i t len parts
    obtain ⟨av, hK, hr⟩ := evLitI_ok hE.ty h (M := M)
    refine ⟨av, hK, .of_ok fun w0 F Hp hs w ev hi hv => ?_⟩
    obtain ⟨v, Hp', w', h1, h2, h3, h4⟩ := hr w0 F Hp hs w ev hi hv
    exact ⟨v, Hp', w', by simp only [execOp, Sem.run_bind, h1, Result.andThen_ok, Sem.run_pure], h2, h3, h4⟩
  · rename_i t x
    obtain ⟨av, hK, hr⟩ := evIface_ok hE.ty h
    refine ⟨av, hK, .of_ok (.pure fun w0 F Hp hs w ev hi hv => ?_)⟩
    obtain ⟨v, h1, h2⟩ := hr F Hp hs w _ (hv x)
    exact ⟨v, by simp [execOp, h1], h2⟩
  · rename_i x T t ok
    obtain ⟨av, hK, hr⟩ := evAssert_ok hE.ty h
    refine ⟨av, hK, .of_ok (.pure fun w0 F Hp hs w ev hi hv => ?_)⟩
    obtain ⟨v, h1, h2⟩ := hr F Hp hs w _ T (hv x)
    exact ⟨v, by simp [execOp, h1], h2⟩
  · rename_i src d x
    split at h
    · obtain ⟨av, hK, hr⟩ := evS2B_ok hE.ty h
      refine ⟨av, hK, .of_ok fun w0 F Hp hs w ev hi hv => ?_⟩
      obtain ⟨v, Hp', w', h1, h2, h3, h4⟩ := hr w0 F Hp hs M w _ hi (hv x)
      exact ⟨v, Hp', w', by simp [execOp, h1], h2, h3, h4⟩
    · obtain ⟨av, hav, hK⟩ := evR_ok (o := ⟨dst, .convert src d x, type, pos, after, guard⟩) hE.ty h
      exact ⟨av, hK, .of_ok hav⟩
  · rename_i g xs ts
    split at h
    · rename_i f hf
      obtain ⟨av, hK, hr⟩ := evCallI_ok hE.Γ h
      refine ⟨av, hK, fun w0 F Hp hs w a next Q hi hv hn => ?_⟩
      have hrun := hr w0 F Hp hs w _ hi (reps_ev hv xs.toList)
      have hg := hv g
      unfold funcOf at hf
      split at hf
      · rename_i f' A B hρ
        split at hf
        · rename_i e1 e2
          cases hf
          have e1 : A = #[] := by rw [← Array.toList_inj, e1]
          have e2 : B = #[] := by rw [← Array.toList_inj, e2]
          subst e1 e2
          rw [hρ] at hg
          have hg := hg.inv_val
          refine wp_runs (w1 := w) ?_ hrun (fun v w' hR => ?_)
          · have e : (xs.toList.map a.eval).toArray = xs.map a.eval := by rw [← Array.toList_inj]; simp
            simp [execOp, resolve, hg, Deferred.ofValue, invoke, e]
          · obtain ⟨Hp', q1, q2, q3⟩ := hR
            exact hn Hp' w' v q1 q2 q3
        · cases hf
      · cases hf
    · exact h.elim
  · rename_i g nm xs ts
    split at h
    · rename_i T x hρ
      split at h
      · rename_i nm' f hm
        split at h
        · rename_i hnm
          have hnm := of_decide_eq_true hnm
          subst hnm
          obtain ⟨av, hK, hr⟩ := evCallI_ok hE.Γ h
          refine ⟨av, hK, fun w0 F Hp hs w a next Q hi hv hn => ?_⟩
          have hg := hv g
          rw [hρ] at hg
          have hg : ∃ v, a.eval g = .iface T v ∧ Rep F Hp hs x v := by
            generalize a.eval g = u at hg
            cases hg with | ifc _ _ v h => exact ⟨v, rfl, h⟩
          obtain ⟨v0, hg, hx⟩ := hg
          have hrun := hr w0 F Hp hs w _ hi (.cons hx (reps_ev hv xs.toList))
          refine wp_runs (w1 := w) ?_ hrun (fun v w' hR => ?_)
          · have e : (v0 :: xs.toList.map a.eval).toArray = #[v0] ++ xs.map a.eval := by rw [← Array.toList_inj]; simp
            rw [e, ← hE.mth T nm f hm]
            have e2 : ((#[Value.iface T v0] ++ xs.map a.eval).extract 1 (#[Value.iface T v0] ++ xs.map a.eval).size) = xs.map a.eval := by
              apply Array.ext'
              rw [Array.toList_extract]
              simp [List.take_of_length_le]
            have e3 : (#[Value.iface T v0] ++ xs.map a.eval)[0]? = some (Value.iface T v0) := by
              rw [← Array.getElem?_toList]; simp
            simp only [execOp, resolve, hg, Sem.run_bind, Sem.run_pure, Result.andThen_ok, invoke]
            rw [e2, e3]
          · obtain ⟨Hp', q1, q2, q3⟩ := hR
            exact hn Hp' w' v q1 q2 q3
        · exact h.elim
      · exact h.elim
    · exact h.elim
  · obtain ⟨av, hav, hK⟩ := evR_ok (o := ⟨dst, op, type, pos, after, guard⟩) hE.ty h
    exact ⟨av, hK, .of_ok hav⟩
end Go.Sx
end
section
namespace Go.Sx
open Go
variable {P : Program} {E : Env} {n k : Nat}

/-- what the first ones told: place, slot, what -/
abbrev Told := List (Nat × Option Nat × AV)
def maskF : List Oper → Fr → Fr
  | [], fr => fr
  | o :: r, fr => maskF r (match o.dst with
    | some d => fr.put d .top
    | none => fr)
def layF (aft : Option (List Nat)) : Told → Fr → Fr
  | [], fr => fr
  | (j, some d, av) :: r, fr => match aft with
    | none => layF aft r (fr.put d av)
    | some l => match hasN l j with
      | true => layF aft r (fr.put d av)
      | false => layF aft r fr
  | (_, none, _) :: r, fr => layF aft r fr
def findT : Told → Nat → AV
  | [], _ => .top
  | (j, d, av) :: r, g => match Nat.beq j g with
    | true => match d with
      | some _ => av
      | none => .top
    | false => findT r g
def setT : Told → Nat → AV → Told
  | [], _, _ => []
  | (j, d, av) :: r, g, x => match Nat.beq j g with
    | true => (j, d, x) :: r
    | false => (j, d, av) :: setT r g x
def evBT (av : AV) (g : Nat) (R : Told) (yes no : Told → Prop) : Prop :=
  match av with
  | .tt => yes R
  | .ff => no R
  | .val (.bool c) => (c = true → yes (setT R g .tt)) ∧ (c = false → no (setT R g .ff))
  | _ => False
/-- the guard of an operation of a stretch: told in it, or before it -/
def evGdT (p : Nat) (seg all : List Oper) (o : Oper) (R : Told) (fr : Fr) (yes no : Told → Fr → Prop) : Prop :=
  match o.guard with
  | none => yes R fr
  | some (g, want) => match hasN (aftN o) g with
    | true => match Nat.ble p g with
      | true => match findT R g, want with
        | .val (.tuple _), _ => no R fr
        | av, true => evBT av g R (fun R => yes R fr) (fun R => no R fr)
        | av, false => evBT av g R (fun R => no R fr) (fun R => yes R fr)
      | false => match (all[g]?).bind (·.dst) with
        | some t => match hasN (dstsN seg) t with
          | false => match fr.get t, want with
            | .val (.tuple _), _ => no R fr
            | .tt, true => yes R fr
            | .tt, false => no R fr
            | .ff, true => no R fr
            | .ff, false => yes R fr
            | .val (.bool c), true => (c = true → yes R (fr.put t .tt)) ∧ (c = false → no R (fr.put t .ff))
            | .val (.bool c), false => (c = true → no R (fr.put t .tt)) ∧ (c = false → yes R (fr.put t .ff))
            | _, _ => False
          | true => False
        | none => False
    | false => False
def evHeads (E : Env) (p : Nat) (seg all : List Oper) (M : List Blk) : List Oper → Nat → Told → Fr → (Told → Fr → Prop) → Prop
  | [], _, R, fr, K => K R fr
  | o :: r, i, R, fr, K => evGdT p seg all o R fr
      (fun R fr => evH E o.op (evO (layF (some (aftN o)) R (maskF seg fr))) M fun av => evHeads E p seg all M r (i + 1) (R ++ [(i, o.dst, av)]) fr K)
      (fun R fr => evHeads E p seg all M r (i + 1) (R ++ [(i, o.dst, .val undef)]) fr K)
def anyGe (b : Nat) : List Nat → Bool
  | [] => false
  | q :: r => match Nat.ble b q with
    | true => true
    | false => anyGe b r
def hasAft (q : Nat) : List Oper → Bool
  | [] => false
  | o :: r => match hasN (aftN o) q with
    | true => true
    | false => hasAft q r
/-- all before a place come before what has these ahead -/
def sinksIn (pre : List Oper) (l : List Nat) : Nat → Bool
  | 0 => true
  | q + 1 => match hasAft q pre with
    | true => sinksIn pre l q
    | false => match hasN l q with
      | true => sinksIn pre l q
      | false => false
def partB (pre : List Oper) (b : Nat) : List Oper → Bool
  | [] => true
  | o :: r => match anyGe b (aftN o) with
    | true => partB pre b r
    | false => match sinksIn pre (aftN o) b with
      | true => partB pre b r
      | false => false
def segsOk (n : Nat) (all : List Oper) : List Nat → Nat → Bool
  | [], p => Nat.beq p all.length
  | b :: bs, p => match Nat.ble (p + 1) b, Nat.ble b all.length, partB (all.take b) b (all.drop b), ndN (dstsN ((all.drop p).take (b - p))), below n (dstsN ((all.drop p).take (b - p))) with
    | true, true, true, true, true => segsOk n all bs b
    | _, _, _, _, _ => false
/-- the stretches of a drawn region -/
def evSegs (E : Env) (n : Nat) (fz : List Nat) (all : List Oper) : List Nat → Nat → Fr → List Blk → (Fr → List Blk → Prop) → Prop
  | [], _, fr, M, K => K fr M
  | b :: bs, p, fr, M, K => match Nat.beq b (p + 1), all[p]? with
    | true, some o => evGd all o fr M
        (fun fr M => evW E o.op (evO fr) M fun av M' => evPut n fz o.dst av fr M' fun fr' M'' => evSegs E n fz all bs b fr' M'' K)
        (fun fr M => evPut n [] o.dst (.val undef) fr M fun fr' M' => evSegs E n fz all bs b fr' M' K)
    | _, _ => evHeads E p ((all.drop p).take (b - p)) all M ((all.drop p).take (b - p)) p [] fr fun R fr' => evSegs E n fz all bs b (layF none R (maskF ((all.drop p).take (b - p)) fr')) M K
def evDraw (E : Env) (n : Nat) (fz : List Nat) (bs : List Nat) (all : List Oper) (fr : Fr) (M : List Blk) (K : Fr → List Blk → Prop) : Prop :=
  match belowAll 0 all, segsOk n all bs 0 with
  | true, true => evSegs E n fz all bs 0 fr M K
  | _, _ => False

section
variable {ops : Array Oper} {Q : Exit → Act → World → Prop}
theorem dstsN_mem : ∀ {l : List Oper} {j : Nat} {o : Oper} {d : Nat}, l[j]? = some o → o.dst = some d → d ∈ dstsN l
  | [], j, o, d, h, _ => by simp at h
  | p :: r, 0, o, d, h, hd => by
    simp at h; subst h
    simp only [dstsN, hd]; exact List.mem_cons_self ..
  | p :: r, j + 1, o, d, h, hd => by
    have ih := dstsN_mem (l := r) (j := j) (by simpa using h) hd
    simp only [dstsN]
    split
    · exact List.mem_cons_of_mem _ ih
    · exact ih
theorem dstsN_inj : ∀ {l : List Oper}, (dstsN l).Nodup → ∀ {i j : Nat} {o p : Oper} {d : Nat}, l[i]? = some o → l[j]? = some p → o.dst = some d → p.dst = some d → i = j
  | [], _, i, j, o, p, d, h, _, _, _ => by simp at h
  | q :: r, hn, 0, 0, o, p, d, _, _, _, _ => rfl
  | q :: r, hn, 0, j + 1, o, p, d, h1, h2, d1, d2 => by
    simp at h1; subst h1
    simp only [dstsN, d1] at hn
    exact absurd (dstsN_mem (l := r) (j := j) (by simpa using h2) d2) (List.nodup_cons.1 hn).1
  | q :: r, hn, i + 1, 0, o, p, d, h1, h2, d1, d2 => by
    simp at h2; subst h2
    simp only [dstsN, d2] at hn
    exact absurd (dstsN_mem (l := r) (j := i) (by simpa using h1) d1) (List.nodup_cons.1 hn).1
  | q :: r, hn, i + 1, j + 1, o, p, d, h1, h2, d1, d2 => by
    have hn' : (dstsN r).Nodup := by
      simp only [dstsN] at hn
      split at hn
      · exact (List.nodup_cons.1 hn).2
      · exact hn
    exact congrArg (· + 1) (dstsN_inj hn' (by simpa using h1) (by simpa using h2) d1 d2)

/-- slots that hold what a frame says -/
def Holds (F Hp : PH) (hs : List Value) (fr : Fr) (tm : Nat → Value) : Prop := ∀ t, Rep F Hp hs (fr.get t) (tm t)
theorem mask_holds {F Hp : PH} {hs : List Value} {tm : Nat → Value} : ∀ (l : List Oper) (fr : Fr), (∀ t, t ∉ dstsN l → Rep F Hp hs (fr.get t) (tm t)) → Holds F Hp hs (maskF l fr) tm
  | [], fr, h => fun t => h t (by simp [dstsN])
  | o :: r, fr, h => by
    rw [maskF]
    apply mask_holds r
    intro t ht
    split
    · rename_i d hd
      rw [Fr.get_put]
      split
      · exact .top _
      · rename_i hne
        refine h t ?_
        simp only [dstsN, hd]
        intro hm
        rcases List.mem_cons.1 hm with rfl | hm
        · exact hne rfl
        · exact ht hm
    · rename_i hd
      refine h t ?_
      simp only [dstsN, hd]; exact ht
theorem lay_holds {F Hp : PH} {hs : List Value} {tm : Nat → Value} {aft : Option (List Nat)} : ∀ (R : Told) (fr : Fr), Holds F Hp hs fr tm → (∀ j d av, (j, some d, av) ∈ R → (∀ l, aft = some l → j ∈ l) → Rep F Hp hs av (tm d)) → Holds F Hp hs (layF aft R fr) tm
  | [], fr, h, _ => h
  | (j, none, av) :: r, fr, h, hR => by
    have e : layF aft ((j, none, av) :: r) fr = layF aft r fr := by simp [layF]
    rw [e]
    exact lay_holds r fr h fun j d av hm => hR j d av (List.mem_cons_of_mem _ hm)
  | (j, some d, av) :: r, fr, h, hR => by
    have hp : (∀ l, aft = some l → j ∈ l) → Holds F Hp hs (fr.put d av) tm := by
      intro hl t
      rw [Fr.get_put]
      split
      · rename_i e; subst e; exact hR j _ av (List.mem_cons_self ..) hl
      · exact h t
    cases aft with
    | none =>
      show Holds F Hp hs (layF none r (fr.put d av)) tm
      exact lay_holds r _ (hp (by simp)) fun j d av hm => hR j d av (List.mem_cons_of_mem _ hm)
    | some l =>
      cases hb : hasN l j with
      | true =>
        have e : layF (some l) ((j, some d, av) :: r) fr = layF (some l) r (fr.put d av) := by simp only [layF, hb]
        rw [e]
        exact lay_holds r _ (hp (fun l' e => by cases e; exact hasN_iff.1 hb)) fun j d av hm => hR j d av (List.mem_cons_of_mem _ hm)
      | false =>
        have e : layF (some l) ((j, some d, av) :: r) fr = layF (some l) r fr := by simp only [layF, hb]
        rw [e]
        exact lay_holds r fr h fun j d av hm => hR j d av (List.mem_cons_of_mem _ hm)

/-- told better -/
def Ref (x y : AV) : Prop := ∀ F Hp hs v, Rep F Hp hs x v → Rep F Hp hs y v
/-- what is told, beside what was told first -/
structure Good (ops : Array Oper) (p : Nat) (R : Told) (O : List AV) : Prop where
  len : R.length = O.length
  ent : ∀ (i : Nat) j d av, R[i]? = some (j, d, av) → j = p + i ∧ (∃ o, ops[j]? = some o ∧ o.dst = d) ∧ ∃ x, O[i]? = some x ∧ Ref x av
theorem setT_len : ∀ (R : Told) (g : Nat) (x : AV), (setT R g x).length = R.length
  | [], _, _ => rfl
  | (j, d, av) :: r, g, x => by
    rw [setT]; split
    · rfl
    · simp [setT_len r g x]
theorem setT_get : ∀ (R : Told) (g : Nat) (x : AV) (i : Nat) e, (setT R g x)[i]? = some e → R[i]? = some e ∨ ∃ d av, R[i]? = some (g, d, av) ∧ e = (g, d, x)
  | [], g, x, i, e, h => by simp [setT] at h
  | (j, d, av) :: r, g, x, i, e, h => by
    rw [setT] at h
    split at h
    · rename_i hh
      have hh := beq_nat hh
      subst hh
      cases i with
      | zero => simp at h; exact .inr ⟨d, av, rfl, h.symm⟩
      | succ i => exact .inl (by simpa using h)
    · cases i with
      | zero => exact .inl (by simpa using h)
      | succ i =>
        rcases setT_get r g x i e (by simpa using h) with h | ⟨d', av', h, h'⟩
        · exact .inl (by simpa using h)
        · exact .inr ⟨d', av', by simpa using h, h'⟩
theorem findT_get : ∀ {R : Told} {g : Nat}, findT R g = .top ∨ ∃ (i : Nat) (d : Nat), R[i]? = some (g, some d, findT R g)
  | [], g => .inl rfl
  | (j, d, av) :: r, g => by
    cases hb : Nat.beq j g with
    | true =>
      have e := beq_nat hb
      subst e
      cases d with
      | none => left; simp only [findT, hb]
      | some d => right; exact ⟨0, d, by simp only [findT, hb]; rfl⟩
    | false =>
      have e : findT ((j, d, av) :: r) g = findT r g := by simp only [findT, hb]
      rw [e]
      rcases findT_get (R := r) (g := g) with h | ⟨i, d', h⟩
      · exact .inl h
      · exact .inr ⟨i + 1, d', by simpa using h⟩
theorem Good.set {p : Nat} {R : Told} {O : List AV} (h : Good ops p R O) {g : Nat} {x y : AV} (hr : Ref x y) (huniq : ∀ (i : Nat) d av, R[i]? = some (g, d, av) → av = x) : Good ops p (setT R g y) O where
  len := by rw [setT_len]; exact h.len
  ent i j d av hi := by
    rcases setT_get R g y i _ hi with hi | ⟨d', av', hi2, e⟩
    · exact h.ent i j d av hi
    · cases e
      obtain ⟨e1, e2, x', e3, e4⟩ := h.ent i _ _ av' hi2
      refine ⟨e1, e2, x', e3, fun F Hp hs v hv => hr F Hp hs v ?_⟩
      have := huniq i _ av' hi2
      rw [← this]
      exact e4 F Hp hs v hv
theorem Good.uniq {p : Nat} {R : Told} {O : List AV} (h : Good ops p R O) {g i i' : Nat} {d d' : Option Nat} {av av' : AV} (h1 : R[i]? = some (g, d, av)) (h2 : R[i']? = some (g, d', av')) : av = av' := by
  have e1 := (h.ent i g d av h1).1
  have e2 := (h.ent i' g d' av' h2).1
  have : i = i' := by omega
  subst this
  rw [h1] at h2; cases h2; rfl
theorem Good.snoc {p : Nat} {R : Told} {O : List AV} (h : Good ops p R O) {o : Oper} (ho : ops[p + O.length]? = some o) (av : AV) : Good ops p (R ++ [(p + O.length, o.dst, av)]) (O ++ [av]) where
  len := by simp [h.len]
  ent i j d av' hi := by
    rcases get_append_one hi with hi | ⟨e1, e2⟩
    · obtain ⟨e1, e2, x, e3, e4⟩ := h.ent i j d av' hi
      exact ⟨e1, e2, x, by rw [List.getElem?_append_left (List.getElem?_eq_some_iff.1 e3).1]; exact e3, e4⟩
    · cases e2
      rw [h.len] at e1
      subst e1
      exact ⟨rfl, ⟨o, ho, rfl⟩, av, by simp, fun F Hp hs v hv => hv⟩

/-- what those of a stretch that come before an operation told -/
def Told1 (ops : Array Oper) (p : Nat) (O : List AV) (o : Oper) (F Hp : PH) (hs : List Value) (a : Act) : Prop :=
  ∀ q ∈ aftN o, p ≤ q → ∀ oq d x, ops[q]? = some oq → oq.dst = some d → O[q - p]? = some x → Rep F Hp hs x (a.tmps.getD d undef)
/-- what one of a stretch does, whenever it may come -/
def HeadDoes (P : Program) (ops : Array Oper) (p : Nat) (fr : Fr) (hd : List Nat) (M : List Blk) (O : List AV) (i : Nat) (o : Oper) (av : AV) : Prop :=
  ∀ (w0 : Base P) F Hp hs w (a : Act) Q (next : Act → World → Prop), InvS w0 F Hp hs M w → Told1 ops p O o F Hp hs a →
    (∀ t, t ∉ hd → Rep F Hp hs (fr.get t) (a.tmps.getD t undef)) → (∀ Hp' w' v, Hp.le Hp' → InvS w0 F Hp' hs M w' → Rep F Hp' hs av v → next (a.put o.dst v) w') → wpOp P ops Q i next a w
theorem HeadDoes.mono {p : Nat} {fr : Fr} {hd : List Nat} {M : List Blk} {O : List AV} {i : Nat} {o : Oper} {av x : AV} (hbel : ∀ q ∈ aftN o, q < p + O.length) (h : HeadDoes P ops p fr hd M O i o av) : HeadDoes P ops p fr hd M (O ++ [x]) i o av := by
  intro w0 F Hp hs w a Q next hi hq ht hn
  refine h w0 F Hp hs w a Q next hi (fun q hqa hpq oq d y h1 h2 h3 => hq q hqa hpq oq d y h1 h2 ?_) ht hn
  rw [List.getElem?_append_left (by have := hbel q hqa; omega)]; exact h3

/-- slots known better -/
def RefF (hd : List Nat) (fr fr' : Fr) : Prop := ∀ t, t ∉ hd → Ref (fr.get t) (fr'.get t)
theorem evGdT_ok {p : Nat} {seg all : List Oper} (hall : all = ops.toList) {o : Oper} {R : Told} {O : List AV} {fr0 fr : Fr} (hRF : RefF (dstsN seg) fr0 fr) {yes no : Told → Fr → Prop} (hG : Good ops p R O) (h : evGdT p seg all o R fr yes no) :
    ∃ R' fr', Good ops p R' O ∧ RefF (dstsN seg) fr0 fr' ∧ ((yes R' fr' ∧ ∀ F Hp hs (a : Act), Told1 ops p O o F Hp hs a → (∀ t, t ∉ dstsN seg → Rep F Hp hs (fr0.get t) (a.tmps.getD t undef)) → Region.wanted o (yielded ops a.tmps) = true) ∨
      (no R' fr' ∧ ∀ F Hp hs (a : Act), Told1 ops p O o F Hp hs a → (∀ t, t ∉ dstsN seg → Rep F Hp hs (fr0.get t) (a.tmps.getD t undef)) → Region.wanted o (yielded ops a.tmps) = false)) := by
  unfold evGdT at h
  split at h
  · rename_i hg
    exact ⟨R, fr, hG, hRF, .inl ⟨h, fun F Hp hs a _ _ => by simp [Region.wanted, hg]⟩⟩
  · rename_i g want hg
    have hwant : ∀ {t : Nat} (a : Act) (c : Bool), (ops.toList[g]?).bind (·.dst) = some t → a.tmps.getD t undef = .bool c → Region.wanted o (yielded ops a.tmps) = (c == want) := by
      intro t a c ht hc
      simp only [Region.wanted, hg, yielded_of ht hc]
      cases c <;> cases want <;> rfl
    have hnone : ∀ {t : Nat} (a : Act) (u : Array Value), (ops.toList[g]?).bind (·.dst) = some t → a.tmps.getD t undef = .tuple u → Region.wanted o (yielded ops a.tmps) = false := by
      intro t a u ht hc
      simp only [Region.wanted, hg, yielded_of_tup ht hc]
      rfl
    split at h
    · rename_i hgin
      have hgin := hasN_iff.1 hgin
      split at h
      · rename_i hpg
        have hpg := Nat.le_of_ble_eq_true hpg
        -- the guard's own answer
        have hval : ∀ {x : AV}, findT R g = x → x ≠ .top → ∃ t, (ops.toList[g]?).bind (·.dst) = some t ∧ ∀ F Hp hs (a : Act), Told1 ops p O o F Hp hs a → Rep F Hp hs x (a.tmps.getD t undef) := by
          intro x hx hxt
          rcases findT_get (R := R) (g := g) with h' | ⟨i, t, hi⟩
          · rw [hx] at h'; exact absurd h' hxt
          · rw [hx] at hi
            obtain ⟨e0, ⟨oq, ho1, ho2⟩, y, hy1, hy2⟩ := hG.ent i g (some t) x hi
            have hb : (ops.toList[g]?).bind (·.dst) = some t := by rw [Array.getElem?_toList, ho1]; exact ho2
            exact ⟨t, hb, fun F Hp hs a hq => hy2 F Hp hs _ (hq g hgin hpg oq t y ho1 ho2 (by rw [show g - p = i by omega]; exact hy1))⟩
        have hB : ∀ {x : AV} {Y N : Told → Prop}, findT R g = x → evBT x g R Y N → ∃ R' c, Good ops p R' O ∧ (if c = true then Y R' else N R') ∧ ∀ F Hp hs v, Rep F Hp hs x v → v = .bool c := by
          intro x Y N hx hb
          unfold evBT at hb
          split at hb
          · exact ⟨R, true, hG, by simpa using hb, fun F Hp hs v hv => hv.inv_tt⟩
          · exact ⟨R, false, hG, by simpa using hb, fun F Hp hs v hv => hv.inv_ff⟩
          · rename_i c
            have huniq : ∀ (i : Nat) d av, R[i]? = some (g, d, av) → av = .val (.bool c) := by
              intro i d av hi
              rcases findT_get (R := R) (g := g) with h' | ⟨i', d', hi'⟩
              · rw [hx] at h'; cases h'
              · rw [hx] at hi'; exact hG.uniq hi hi'
            cases c with
            | true => exact ⟨_, true, hG.set (x := .val (.bool true)) (y := .tt) (fun F Hp hs v hv => by cases hv.inv_val; exact .tt) huniq, by simpa using hb.1 rfl, fun F Hp hs v hv => hv.inv_val⟩
            | false => exact ⟨_, false, hG.set (x := .val (.bool false)) (y := .ff) (fun F Hp hs v hv => by cases hv.inv_val; exact .ff) huniq, by simpa using hb.2 rfl, fun F Hp hs v hv => hv.inv_val⟩
          · exact hb.elim
        split at h
        · rename_i u hx
          obtain ⟨t, hb, hrep⟩ := hval hx (by simp)
          exact ⟨R, fr, hG, hRF, .inr ⟨h, fun F Hp hs a hq _ => hnone a u hb (hrep F Hp hs a hq).inv_val⟩⟩
        · have hne : findT R g ≠ .top := by
            intro e; rw [e] at h; simp [evBT] at h
          obtain ⟨R', c, hG', hyn, hv⟩ := hB rfl h
          obtain ⟨t, hb, hrep⟩ := hval rfl hne
          refine ⟨R', fr, hG', hRF, ?_⟩
          cases c with
          | true => exact .inl ⟨by simpa using hyn, fun F Hp hs a hq _ => by rw [hwant a true hb (hv F Hp hs _ (hrep F Hp hs a hq))]; rfl⟩
          | false => exact .inr ⟨by simpa using hyn, fun F Hp hs a hq _ => by rw [hwant a false hb (hv F Hp hs _ (hrep F Hp hs a hq))]; rfl⟩
        · have hne : findT R g ≠ .top := by
            intro e; rw [e] at h; simp [evBT] at h
          obtain ⟨R', c, hG', hyn, hv⟩ := hB rfl h
          obtain ⟨t, hb, hrep⟩ := hval rfl hne
          refine ⟨R', fr, hG', hRF, ?_⟩
          cases c with
          | true => exact .inr ⟨by simpa using hyn, fun F Hp hs a hq _ => by rw [hwant a true hb (hv F Hp hs _ (hrep F Hp hs a hq))]; rfl⟩
          | false => exact .inl ⟨by simpa using hyn, fun F Hp hs a hq _ => by rw [hwant a false hb (hv F Hp hs _ (hrep F Hp hs a hq))]; rfl⟩
      · split at h
        · rename_i t ht
          rw [hall] at ht
          split at h
          · rename_i hth
            have hth : t ∉ dstsN seg := fun hm => by rw [hasN_iff.2 hm] at hth; cases hth
            have hslot : ∀ {x : AV}, fr.get t = x → ∀ F Hp hs (a : Act), (∀ t, t ∉ dstsN seg → Rep F Hp hs (fr0.get t) (a.tmps.getD t undef)) → Rep F Hp hs x (a.tmps.getD t undef) := by
              intro x hx F Hp hs a hb
              rw [← hx]
              exact hRF t hth F Hp hs _ (hb t hth)
            have hput : ∀ (c : Bool), fr.get t = .val (.bool c) → RefF (dstsN seg) fr0 (fr.put t (match c with | true => .tt | false => .ff)) := by
              intro c hc s hs
              rw [Fr.get_put]
              split
              · rename_i e
                subst e
                intro F Hp hs v hv
                have := hRF t hth F Hp hs v hv
                rw [hc] at this
                cases this.inv_val
                cases c
                · exact .ff
                · exact .tt
              · exact hRF s hs
            split at h
            · rename_i u hx
              exact ⟨R, fr, hG, hRF, .inr ⟨h, fun F Hp hs a _ hb => hnone a u ht (hslot hx F Hp hs a hb).inv_val⟩⟩
            · rename_i hx
              exact ⟨R, fr, hG, hRF, .inl ⟨h, fun F Hp hs a _ hb => by rw [hwant a true ht (hslot hx F Hp hs a hb).inv_tt]; rfl⟩⟩
            · rename_i hx
              exact ⟨R, fr, hG, hRF, .inr ⟨h, fun F Hp hs a _ hb => by rw [hwant a true ht (hslot hx F Hp hs a hb).inv_tt]; rfl⟩⟩
            · rename_i hx
              exact ⟨R, fr, hG, hRF, .inr ⟨h, fun F Hp hs a _ hb => by rw [hwant a false ht (hslot hx F Hp hs a hb).inv_ff]; rfl⟩⟩
            · rename_i hx
              exact ⟨R, fr, hG, hRF, .inl ⟨h, fun F Hp hs a _ hb => by rw [hwant a false ht (hslot hx F Hp hs a hb).inv_ff]; rfl⟩⟩
            · rename_i c hx
              cases c with
              | true => exact ⟨R, _, hG, hput true hx, .inl ⟨h.1 rfl, fun F Hp hs a _ hb => by rw [hwant a true ht (hslot hx F Hp hs a hb).inv_val]; rfl⟩⟩
              | false => exact ⟨R, _, hG, hput false hx, .inr ⟨h.2 rfl, fun F Hp hs a _ hb => by rw [hwant a false ht (hslot hx F Hp hs a hb).inv_val]; rfl⟩⟩
            · rename_i c hx
              cases c with
              | true => exact ⟨R, _, hG, hput true hx, .inr ⟨h.1 rfl, fun F Hp hs a _ hb => by rw [hwant a true ht (hslot hx F Hp hs a hb).inv_val]; rfl⟩⟩
              | false => exact ⟨R, _, hG, hput false hx, .inl ⟨h.2 rfl, fun F Hp hs a _ hb => by rw [hwant a false ht (hslot hx F Hp hs a hb).inv_val]; rfl⟩⟩
            · exact h.elim
          · exact h.elim
        · exact h.elim
    · exact h.elim

theorem evHeads_ok (hE : EnvOk P E) {all : List Oper} (hall : all = ops.toList) {p : Nat} {M : List Blk} (seg : List Oper) (hseg : ∀ (i : Nat) o, seg[i]? = some o → ops[p + i]? = some o) (hbel : ∀ (i : Nat) o, ops[i]? = some o → ∀ q ∈ aftN o, q < i) {fr0 : Fr} :
    ∀ (r : List Oper) (R : Told) (O : List AV) (fr : Fr) (K : Told → Fr → Prop), seg.drop O.length = r → O.length ≤ seg.length → Good ops p R O → RefF (dstsN seg) fr0 fr → (∀ (i : Nat) o av, ops[p + i]? = some o → O[i]? = some av → HeadDoes P ops p fr0 (dstsN seg) M O (p + i) o av) →
      evHeads E p seg all M r (p + O.length) R fr K → ∃ R' O' fr', K R' fr' ∧ O'.length = seg.length ∧ Good ops p R' O' ∧ RefF (dstsN seg) fr0 fr' ∧ ∀ (i : Nat) o av, ops[p + i]? = some o → O'[i]? = some av → HeadDoes P ops p fr0 (dstsN seg) M O' (p + i) o av
  | [], R, O, fr, K, hd, hle, hG, hRF, hH, h => by
    refine ⟨R, O, fr, h, ?_, hG, hRF, hH⟩
    have := congrArg List.length hd
    simp at this; omega
  | o :: r, R, O, fr, K, hd, hle, hG, hRF, hH, h => by
    have hlt : O.length < seg.length := by
      have := congrArg List.length hd
      simp at this; omega
    have hho : seg[O.length]? = some o := by
      have := congrArg (fun l => l[0]?) hd
      simpa using this
    have hoo : ops[p + O.length]? = some o := hseg _ _ hho
    have hd' : ∀ x : AV, seg.drop (O ++ [x]).length = r := by
      intro x
      have := congrArg (List.drop 1) hd
      simpa [List.drop_drop, Nat.add_comm] using this
    have hgrow : ∀ (av : AV), HeadDoes P ops p fr0 (dstsN seg) M O (p + O.length) o av → ∀ (i : Nat) o' av', ops[p + i]? = some o' → (O ++ [av])[i]? = some av' → HeadDoes P ops p fr0 (dstsN seg) M (O ++ [av]) (p + i) o' av' := by
      intro av hav i o' av' h1 h2
      rcases get_append_one h2 with h2 | ⟨rfl, rfl⟩
      · have hi := (List.getElem?_eq_some_iff.1 h2).1
        refine (hH i o' av' h1 h2).mono fun q hq => ?_
        have := hbel _ o' h1 q hq
        omega
      · rw [hoo] at h1; cases h1
        exact hav.mono fun q hq => hbel _ o hoo q hq
    simp only [evHeads] at h
    obtain ⟨R', fr', hG', hRF', ⟨hy, hw⟩ | ⟨hy, hw⟩⟩ := evGdT_ok hall hRF hG h
    · obtain ⟨av, hK, hstep⟩ := evH_ok hE hy
      have hav : HeadDoes P ops p fr0 (dstsN seg) M O (p + O.length) o av := by
        intro w0 F Hp hs' w a Q next hi hq ht hn
        simp only [wpOp, hoo, hw F Hp hs' a hq ht, if_true]
        refine .inl (hstep w0 F Hp hs' w a next Q hi (evO_rep ?_) hn)
        refine lay_holds R' _ (mask_holds seg fr' fun t hth => hRF' t hth F Hp hs' _ (ht t hth)) fun j d av hm hj => ?_
        obtain ⟨i, hi'⟩ := List.getElem?_of_mem hm
        obtain ⟨e0, ⟨oq, e1, e2⟩, x, e3, e4⟩ := hG'.ent i j (some d) av hi'
        exact e4 F Hp hs' _ (hq j (hj _ rfl) (by omega) oq d x e1 e2 (by rw [show j - p = i by omega]; exact e3))
      have := hG'.snoc hoo av
      exact evHeads_ok hE hall seg hseg hbel r _ _ fr' K (hd' av) (by simp; omega) this hRF' (hgrow av hav) (by simpa [Nat.add_assoc] using hK)
    · have hav : HeadDoes P ops p fr0 (dstsN seg) M O (p + O.length) o (.val undef) := by
        intro w0 F Hp hs' w a Q next hi hq ht hn
        simp only [wpOp, hoo, hw F Hp hs' a hq ht, Bool.false_eq_true, if_false]
        exact hn Hp w undef (PH.le.refl _) hi (.val _)
      have := hG'.snoc hoo (.val undef)
      exact evHeads_ok hE hall seg hseg hbel r _ _ fr' K (hd' _) (by simp; omega) this hRF' (hgrow _ hav) (by simpa [Nat.add_assoc] using hy)
end
end Go.Sx
end
section
namespace Go.Sx
open Go
variable {P : Program} {E : Env} {n k : Nat}

def RunAny (P : Program) (ops : Array Oper) (K : Act → World → Prop) (a : Act) (w : World) : Prop :=
  ∀ Q : Exit → Act → World → Prop, (∀ a w, K a w → Q .normal a w) → wpAny P .any ops Q ops.size (Array.replicate ops.size false) a w
def RunFrom (P : Program) (ops : Array Oper) (p : Nat) (K : Act → World → Prop) (a : Act) (w : World) : Prop :=
  ∀ Q : Exit → Act → World → Prop, (∀ a w, K a w → Q .normal a w) → WA P ops Q p a w
theorem dstsN_append : ∀ (l r : List Oper), dstsN (l ++ r) = dstsN l ++ dstsN r
  | [], r => rfl
  | o :: l, r => by
    have ih := dstsN_append l r
    cases hd : o.dst with
    | none => simp only [List.cons_append, dstsN, hd, ih]
    | some d => simp only [List.cons_append, dstsN, hd, ih]
theorem anyGe_ok {b : Nat} : ∀ {l : List Nat}, anyGe b l = true → ∃ q ∈ l, b ≤ q
  | [], h => by simp [anyGe] at h
  | q :: r, h => by
    simp only [anyGe] at h
    split at h
    · rename_i hh; exact ⟨q, List.mem_cons_self .., Nat.le_of_ble_eq_true hh⟩
    · obtain ⟨x, h1, h2⟩ := anyGe_ok h
      exact ⟨x, List.mem_cons_of_mem _ h1, h2⟩
theorem hasAft_ok {q : Nat} : ∀ {l : List Oper}, hasAft q l = true → ∃ (j : Nat) (o : Oper), l[j]? = some o ∧ q ∈ aftN o
  | [], h => by simp [hasAft] at h
  | o :: r, h => by
    simp only [hasAft] at h
    split at h
    · rename_i hh; exact ⟨0, o, rfl, hasN_iff.1 hh⟩
    · obtain ⟨j, p, h1, h2⟩ := hasAft_ok h
      exact ⟨j + 1, p, by simpa using h1, h2⟩
theorem sinksIn_ok {pre : List Oper} {l : List Nat} : ∀ {b : Nat}, sinksIn pre l b = true → ∀ q < b, hasAft q pre = true ∨ q ∈ l
  | 0, _, q, h => by omega
  | b + 1, h, q, hq => by
    simp only [sinksIn] at h
    by_cases e : q = b
    · subst e
      split at h
      · rename_i hh; exact .inl hh
      · split at h
        · rename_i hh; exact .inr (hasN_iff.1 hh)
        · cases h
    · split at h
      · exact sinksIn_ok h q (by omega)
      · split at h
        · exact sinksIn_ok h q (by omega)
        · cases h
theorem partB_ok {pre : List Oper} {b : Nat} : ∀ {l : List Oper}, partB pre b l = true → ∀ (m : Nat) o, l[m]? = some o → (∃ q ∈ aftN o, b ≤ q) ∨ ∀ q < b, hasAft q pre = true ∨ q ∈ aftN o
  | [], _, m, o, h => by simp at h
  | p :: r, h, m, o, hm => by
    simp only [partB] at h
    have ih : partB pre b r = true → ∀ (m : Nat) o, r[m]? = some o → (∃ q ∈ aftN o, b ≤ q) ∨ ∀ q < b, hasAft q pre = true ∨ q ∈ aftN o := fun h => partB_ok h
    split at h
    · rename_i hh
      cases m with
      | zero => simp at hm; subst hm; exact .inl (anyGe_ok hh)
      | succ m => exact ih h m o (by simpa using hm)
    · split at h
      · rename_i hh
        cases m with
        | zero => simp at hm; subst hm; exact .inr (sinksIn_ok hh)
        | succ m => exact ih h m o (by simpa using hm)
      · cases h
theorem parted_of {ops : Array Oper} (hbel : ∀ (i : Nat) o, ops[i]? = some o → ∀ q ∈ aftN o, q < i) {b : Nat} (h : partB (ops.toList.take b) b (ops.toList.drop b) = true) : Parted ops b := by
  intro i
  induction i using Nat.strongRecOn with
  | _ i ih =>
    intro o hi ho L hcl hq
    have hd : (ops.toList.drop b)[i - b]? = some o := by
      rw [List.getElem?_drop, show b + (i - b) = i by omega, Array.getElem?_toList]; exact ho
    rcases partB_ok h (i - b) o hd with ⟨j, hj, hbj⟩ | hs
    · have hji := hbel i o ho j hj
      have hjs : j < ops.size := by have := (Array.getElem?_eq_some_iff.1 ho).1; omega
      have hoj := Array.getElem?_eq_getElem hjs
      exact ih j hji _ hbj hoj L hcl (hcl j _ hoj (hq j hj))
    · -- downwards
      have key : ∀ (m q : Nat), b - q = m → q < b → L q := by
        intro m
        induction m using Nat.strongRecOn with
        | _ m ihm =>
          intro q hm hqb
          rcases hs q hqb with h1 | h1
          · obtain ⟨j, oj, hj1, hj2⟩ := hasAft_ok h1
            rw [List.getElem?_take] at hj1
            split at hj1
            · rename_i hjb
              rw [Array.getElem?_toList] at hj1
              have := hbel j oj hj1 q hj2
              exact hcl j oj hj1 (ihm (b - j) (by omega) j rfl hjb) q hj2
            · cases hj1
          · exact hq q h1
      exact fun q hqb => key _ q rfl hqb
theorem drop_cut {α : Type} (l : List α) {p b : Nat} (h : p ≤ b) : l.drop p = (l.drop p).take (b - p) ++ l.drop b := by
  have := (List.take_append_drop (b - p) (l.drop p)).symm
  rwa [List.drop_drop, show p + (b - p) = b by omega] at this
theorem evSegs_ok (hE : EnvOk P E) {fz : List Nat} {ops : Array Oper} (hbel : ∀ (i : Nat) o, ops[i]? = some o → ∀ q ∈ aftN o, q < i) :
    ∀ (bs : List Nat) (p : Nat) {fr : Fr} {M : List Blk} {K : Fr → List Blk → Prop}, segsOk n ops.toList bs p = true → evSegs E n fz ops.toList bs p fr M K →
      ∃ fr' M', K fr' M' ∧ GoesO P n k (dstsN (ops.toList.drop p)) (RunFrom P ops p) fr M fr' M'
  | [], p, fr, M, K, hok, h => by
    simp only [evSegs] at h
    simp only [segsOk] at hok
    have hp := beq_nat hok
    refine ⟨fr, M, h, fun w0 F Hp hs w a K hst hk Q hq => ?_⟩
    have : p = ops.size := by simpa using hp
    subst this
    exact WA.fin (hq _ _ (hk Hp hs w a (PH.le.refl _) (HL.refl _) hst (fun _ _ => rfl)))
  | b :: bs, p, fr, M, K, hok, h => by
    simp only [evSegs] at h
    simp only [segsOk] at hok
    split at hok
    · rename_i c1 c2 c3 c4 c5
      have hpb := Nat.le_of_ble_eq_true c1
      have hbn : b ≤ ops.size := by have := Nat.le_of_ble_eq_true c2; simpa using this
      have hpart := parted_of hbel c3
      split at h
      · rename_i o hb1 ho
        have hb1 := beq_nat hb1
        subst hb1
        rw [Array.getElem?_toList] at ho
        have hdr : ops.toList.drop p = o :: ops.toList.drop (p + 1) := by
          have hlt := (Array.getElem?_eq_some_iff.1 ho).1
          have := List.drop_eq_getElem_cons (l := ops.toList) (i := p) (by simpa using hlt)
          rw [this]
          congr 1
          have e : ops.toList[p]? = some o := by rw [Array.getElem?_toList]; exact ho
          rw [List.getElem?_eq_getElem (by simpa using hlt)] at e
          exact Option.some.inj e
        obtain ⟨fr1, ⟨hy, hw⟩ | ⟨hy, hw⟩⟩ := evGd_ok (P := P) (n := n) (k := k) h
        · obtain ⟨av, M1, h2, hstep⟩ := evW_ok hE hy
          obtain ⟨fr2, M2, h3, hput⟩ := evPut_ok (P := P) (n := n) (k := k) h2
          obtain ⟨fr3, M3, hK, hgo⟩ := evSegs_ok hE hbel bs (p + 1) hok h3
          refine ⟨fr3, M3, hK, fun w0 F Hp hs w a K hst hk Q hq => ?_⟩
          obtain ⟨hst1, hwant⟩ := hw w0 F Hp hs w a hst
          refine WA.one p (by omega) hpart hbel ?_
          simp only [wpOp, ho, hwant, if_true]
          refine .inl (hst1.step hstep hput fun Hp' hs' w' v hle hl hst' => ?_)
          exact hgo w0 F Hp' hs' w' _ _ hst' (fun Hp'' hs'' w'' a'' hle' hl' hst'' hsame => hk Hp'' hs'' w'' a'' (hle.trans hle') (hl.trans hl') hst''
            (fun t ht => by rw [hdr] at ht; obtain ⟨q1, q2⟩ := not_dsts ht; rw [hsame t q2, put_other q1])) Q hq
        · obtain ⟨fr2, M2, h3, hput⟩ := evPut_ok (P := P) (n := n) (k := k) hy
          obtain ⟨fr3, M3, hK, hgo⟩ := evSegs_ok hE hbel bs (p + 1) hok h3
          refine ⟨fr3, M3, hK, fun w0 F Hp hs w a K hst hk Q hq => ?_⟩
          obtain ⟨hst1, hwant⟩ := hw w0 F Hp hs w a hst
          refine WA.one p (by omega) hpart hbel ?_
          simp only [wpOp, ho, hwant, Bool.false_eq_true, if_false]
          obtain ⟨Hp', hle, hst'⟩ := hput w0 F Hp hs w a undef hst1 (.val _)
          exact hgo w0 F Hp' hs w _ _ hst' (fun Hp'' hs'' w'' a'' hle' hl' hst'' hsame => hk Hp'' hs'' w'' a'' (hle.trans hle') hl' hst''
            (fun t ht => by rw [hdr] at ht; obtain ⟨q1, q2⟩ := not_dsts ht; rw [hsame t q2, put_other q1])) Q hq
      · skip
        · generalize hsegd : (ops.toList.drop p).take (b - p) = seg at h c4 c5
          have hnd := ndN_ok c4
          have hdn := below_ok c5
          have hseglen : seg.length = b - p := by rw [← hsegd]; simp; omega
          have hseg : ∀ (i : Nat) o, seg[i]? = some o → ops[p + i]? = some o := by
            intro i o ho
            rw [← hsegd, List.getElem?_take] at ho
            split at ho
            · rw [List.getElem?_drop, Array.getElem?_toList] at ho; exact ho
            · cases ho
          have hseg' : ∀ {j : Nat} {o : Oper}, p ≤ j → j < b → ops[j]? = some o → seg[j - p]? = some o := by
            intro j o h1 h2 ho
            rw [← hsegd, List.getElem?_take, if_pos (by omega), List.getElem?_drop, Array.getElem?_toList, show p + (j - p) = j by omega]; exact ho
          have hdr : ops.toList.drop p = seg ++ ops.toList.drop b := by rw [← hsegd]; exact drop_cut _ (by omega)
          obtain ⟨R, O, fr1, hK, hOl, hG, hRF, hH⟩ := evHeads_ok hE rfl seg hseg hbel (fr0 := fr) seg [] [] fr _ rfl (by simp) ⟨rfl, fun i j d av h => by simp at h⟩ (fun t _ F Hp hs v hv => hv) (fun i o av _ h => by simp at h) (by simpa using h)
          obtain ⟨fr', M', hK', hgo⟩ := evSegs_ok hE hbel bs b hok hK
          refine ⟨fr', M', hK', fun w0 F Hp hs w a K hst hk Q hq => ?_⟩
          refine WA.seg p b (by omega) hbn hpart hbel (J := fun L a' w' => ∃ Hp', Hp.le Hp' ∧ InvS w0 F Hp' hs M w' ∧ a'.defers = [] ∧ a'.tmps.size = n ∧
            (∀ j o d x, p ≤ j → j < b → L j → ops[j]? = some o → o.dst = some d → O[j - p]? = some x → Rep F Hp' hs x (a'.tmps.getD d undef)) ∧
            (∀ t, t ∉ dstsN seg → Rep F Hp' hs (fr.get t) (a'.tmps.getD t undef)) ∧ (∀ t, t ∉ dstsN seg → a'.tmps.getD t undef = a.tmps.getD t undef)) ?_ ?_ ?_ ?_
          · rintro L L' a w hL ⟨Hp', q1, q2, q3, q4, q5, q6, q7⟩
            exact ⟨Hp', q1, q2, q3, q4, fun j o d x hpj hj hl => q5 j o d x hpj hj ((hL j hj).2 hl), q6, q7⟩
          · rintro i o L a1 w1 hpi hih ho hnl hq' ⟨Hp', q1, q2, q3, q4, q5, q6, q7⟩ K1 hK1
            obtain ⟨av, hav⟩ : ∃ av, O[i - p]? = some av := ⟨_, List.getElem?_eq_getElem (by omega)⟩
            have hhd := hH (i - p) o av (by rw [show p + (i - p) = i by omega]; exact ho) hav
            rw [show p + (i - p) = i by omega] at hhd
            refine hhd w0 F Hp' hs w1 a1 Q K1 q2 (fun q hqa hpq oq d x e1 e2 e3 => q5 q oq d x hpq (by have := hbel i o ho q hqa; omega) (hq' q hqa) e1 e2 e3) q6 fun Hp'' w' v hle' hi' hv => ?_
            refine hK1 _ _ ⟨Hp'', q1.trans hle', hi', ?_, ?_, ?_, ?_, ?_⟩
            · cases hdst : o.dst with
              | none => simpa [Act.put] using q3
              | some d => simpa [Act.put] using q3
            · cases hdst : o.dst with
              | none => simpa [Act.put] using q4
              | some d => simpa [Act.put] using q4
            · intro j oj d x hpj hj hl hoj hd hx
              cases hdst : o.dst with
              | none =>
                rcases hl with rfl | hl
                · rw [ho] at hoj; cases hoj; rw [hdst] at hd; cases hd
                · exact Rep.mono (PH.le.refl _) hle' (HL.refl _) (q5 j oj d x hpj hj hl hoj hd hx)
              | some di =>
                have hdi : di < a1.tmps.size := by rw [q4]; exact hdn di (dstsN_mem (hseg' hpi hih ho) hdst)
                rw [getD_put hdi]
                rcases hl with rfl | hl
                · rw [ho] at hoj; cases hoj
                  rw [hdst] at hd; cases hd
                  rw [hav] at hx; cases hx
                  rw [if_pos rfl]; exact hv
                · have hne : di ≠ d := by
                    intro e; subst e
                    have := dstsN_inj hnd (hseg' hpi hih ho) (hseg' hpj hj hoj) hdst hd
                    have : i = j := by omega
                    subst this
                    exact hnl hl
                  rw [if_neg hne]
                  exact Rep.mono (PH.le.refl _) hle' (HL.refl _) (q5 j oj d x hpj hj hl hoj hd hx)
            · intro t ht
              cases hdst : o.dst with
              | none => exact Rep.mono (PH.le.refl _) hle' (HL.refl _) (q6 t ht)
              | some di =>
                have hdm := dstsN_mem (hseg' hpi hih ho) hdst
                have hdi : di < a1.tmps.size := by rw [q4]; exact hdn di hdm
                rw [getD_put hdi, if_neg (fun e => ht (by rw [← e]; exact hdm))]
                exact Rep.mono (PH.le.refl _) hle' (HL.refl _) (q6 t ht)
            · intro t ht
              rw [put_other (fun e => ht (dstsN_mem (hseg' hpi hih ho) e))]
              exact q7 t ht
          · rintro a1 w1 ⟨Hp', q1, q2, q3, q4, q5, q6, q7⟩
            have hst' : StI n k w0 F Hp' hs (layF none R (maskF seg fr1)) M w1 a1 := by
              refine ⟨q2, q3, q4, ?_, hst.kl⟩
              refine lay_holds R _ (mask_holds _ fr1 fun t ht => hRF t ht F Hp' hs _ (q6 t ht)) fun j d av hm _ => ?_
              obtain ⟨i, hi⟩ := List.getElem?_of_mem hm
              obtain ⟨e0, ⟨o, e1, e2⟩, x, e3, e4⟩ := hG.ent i j (some d) av hi
              have hj : i < O.length := (List.getElem?_eq_some_iff.1 e3).1
              exact e4 F Hp' hs _ (q5 j o d x (by omega) (by omega) (by omega) e1 e2 (by rw [show j - p = i by omega]; exact e3))
            exact hgo w0 F Hp' hs w1 a1 K hst' (fun Hp'' hs' w' a' hle' hl hst'' hsame => hk Hp'' hs' w' a' (q1.trans hle') hl hst'' (fun t ht => by
              rw [hdr, dstsN_append, List.mem_append, not_or] at ht
              rw [hsame t ht.2, q7 t ht.1])) Q hq
          · exact ⟨Hp, PH.le.refl _, hst.inv, hst.dfr, hst.sz, fun j o d x hpj hj hl => by omega, fun t _ => hst.tm t, fun _ _ => rfl⟩
    · cases hok
theorem evDraw_ok (hE : EnvOk P E) {fz : List Nat} {bs : List Nat} {ops : Array Oper} {fr : Fr} {M : List Blk} {K : Fr → List Blk → Prop} (hev : evDraw E n fz bs ops.toList fr M K) :
    ∃ fr' M', K fr' M' ∧ GoesO P n k (dstsN ops.toList) (RunAny P ops) fr M fr' M' := by
  unfold evDraw at hev
  split at hev
  · rename_i hb hok
    have hbel : ∀ (i : Nat) o, ops[i]? = some o → ∀ q ∈ aftN o, q < i := by
      intro i o ho q hq
      have := belowAll_ok hb i o (by rw [Array.getElem?_toList]; exact ho) q hq
      omega
    obtain ⟨fr', M', hK, hgo⟩ := evSegs_ok (k := k) hE hbel bs 0 hok hev
    refine ⟨fr', M', hK, fun w0 F Hp hs w a K hst hk Q hq => ?_⟩
    have := hgo w0 F Hp hs w a K hst hk Q hq
    refine this ops.size _ (by simp) (fun j => ?_) (by omega)
    constructor
    · intro hl
      simp [Lst, Array.getD] at hl
    · intro hj; omega
  · exact hev.elim
end Go.Sx
end
section
namespace Go.Sx
open Go
variable {P : Program} {E : Env} {n k : Nat}

/-! a state that is led into a loop's own form: which names stand for which -/
structure Mt where
  a : List (Nat × Nat)
  nils : List Kd
def lookA : List (Nat × Nat) → Nat → Option Nat
  | [], _ => none
  | (i, j) :: r, m => match Nat.beq i m with
    | true => some j
    | false => lookA r m
def Mt.bind (s : Mt) (i j : Nat) : Mt :=
  match lookA s.a i with
  | some _ => s
  | none => ⟨(i, j) :: s.a, s.nils⟩
def mtL (tM : List Blk) (lenM : Nat) (s : Mt) (tgt cur : AV) : Mt :=
  match tgt, cur with
  | .own i, .own j => s.bind i j
  | .own i, .val (.slice none 0 0) => match lookA s.a i with
    | some _ => s
    | none => match tM[i]? with
      | some (.arr k _) => ⟨(i, lenM + s.nils.length) :: s.a, s.nils ++ [k]⟩
      | _ => s
  | .ptr i _, .ptr j _ => s.bind i j
  | .ep i _ _ _, .ep j _ _ _ => s.bind i j
  | .es i _ _ _ _, .es j _ _ _ _ => s.bind i j
  | _, _ => s
def mtLs (tM : List Blk) (lenM : Nat) : Mt → List AV → List AV → Mt
  | s, t :: ts, c :: cs => mtLs tM lenM (mtL tM lenM s t c) ts cs
  | s, _, _ => s
def mt1 (tM : List Blk) (lenM : Nat) (s : Mt) (tgt cur : AV) : Mt :=
  match tgt, cur with
  | .agg ts, .agg cs => mtLs tM lenM s ts cs
  | t, c => mtL tM lenM s t c
def mtFr (tM : List Blk) (lenM : Nat) (fr : Fr) : Mt → Fr → Mt
  | s, [] => s
  | s, (t, av) :: r => mtFr tM lenM fr (mt1 tM lenM s av (fr.get t)) r
def mtFl (tM M : List Blk) : Nat → Mt → List Blk → Mt
  | _, s, [] => s
  | i, s, .flat ts :: r => match lookA s.a i with
    | some j => match M[j]? with
      | some (.flat cs) => mtFl tM M (i + 1) (mtLs tM M.length s ts cs) r
      | _ => mtFl tM M (i + 1) s r
    | none => mtFl tM M (i + 1) s r
  | i, s, _ :: r => mtFl tM M (i + 1) s r
def pinA : Nat → List (Nat × Nat)
  | 0 => []
  | k + 1 => (k, k) :: pinA k
def mtAll (k : Nat) (tfr : Fr) (tM : List Blk) (fr : Fr) (M : List Blk) : Mt :=
  mtFl tM M 0 (mtFl tM M 0 (mtFr tM M.length fr ⟨pinA k, []⟩ tfr) tM) tM
def nsOf (s : Mt) : Nat → Nat → Option (List Nat)
  | _, 0 => some []
  | i, m + 1 => match lookA s.a i, nsOf s (i + 1) m with
    | some j, some l => some (j :: l)
    | _, _ => none
def pinsOk : Nat → Nat → List Nat → Bool
  | _, 0, _ => true
  | i, k + 1, j :: l => match Nat.beq i j with
    | true => pinsOk (i + 1) k l
    | false => false
  | _, _ + 1, [] => false

def cmp0 (ns : List Nat) (lenM tot : Nat) (tgt cur : AV) (G : Prop) : Prop :=
  match tgt, cur with
  | .top, _ => G
  | .val (.int k n), .val (.int k' n') => match decide (k' = k) with
    | true => n' = n ∧ G
    | false => False
  | .val (.bool b), .tt => b = true ∧ G
  | .val (.bool b), .ff => b = false ∧ G
  | .tt, .tt => G
  | .ff, .ff => G
  | .tt, .val (.bool b) => b = true ∧ G
  | .ff, .val (.bool b) => b = false ∧ G
  | .val (.string s), .val (.string s') => s' = s ∧ G
  | .val (.bool b), .val (.bool b') => b' = b ∧ G
  | .val v, .val v' => v' = v ∧ G
  | .sl k xs, .sl _ xs' => match castL (k := k) xs' with
    | some xs' => xs' = xs ∧ G
    | none => False
  | .sl _ xs, .val (.slice none 0 0) => [] = xs ∧ G
  | .lt k xs, .lt _ xs' => match castL (k := k) xs' with
    | some xs' => xs' = xs ∧ G
    | none => False
  | .lt k xs, .sl _ xs' => match castL (k := k) xs' with
    | some xs' => xs' = xs ∧ G
    | none => False
  | .lt _ xs, .val (.slice none 0 0) => [] = xs ∧ G
  | .own i, .own j => match Nat.beq i j with
    | true => G
    | false => False
  | .own i, .val (.slice none 0 0) => match ns[i]? with
    | some j => match Nat.ble lenM j, Nat.ble (j + 1) tot with
      | true, true => G
      | _, _ => False
    | none => False
  | .ptr i o, .ptr j o' => match Nat.beq i j with
    | true => o' = o ∧ G
    | false => False
  | .ep i sz x o, .ep j sz' x' o' => match Nat.beq i j with
    | true => (sz' = sz ∧ x' = x ∧ o' = o) ∧ G
    | false => False
  | .es i sz x l c, .es j sz' x' l' c' => match Nat.beq i j with
    | true => (sz' = sz ∧ x' = x ∧ l' = l ∧ c' = c) ∧ G
    | false => False
  | _, _ => False
def cmpLs (ns : List Nat) (lenM tot : Nat) : List AV → List AV → Prop → Prop
  | [], [], G => G
  | t :: ts, c :: cs, G => cmp0 ns lenM tot t c (cmpLs ns lenM tot ts cs G)
  | _, _, _ => False
def cmp1 (ns : List Nat) (lenM tot : Nat) (tgt cur : AV) (G : Prop) : Prop :=
  match tgt, cur with
  | .agg ts, .agg cs => cmpLs ns lenM tot ts cs G
  | .rp ts o, .rp cs o' => cmpLs ns lenM tot ts cs (o' = o ∧ G)
  | t, c => cmp0 ns lenM tot t c G
def cmpB (ns : List Nat) (lenM tot : Nat) (tgt cur : Blk) (G : Prop) : Prop :=
  match tgt, cur with
  | .dead, _ => G
  | .arr k xs, .arr _ xs' => match castL (k := k) xs' with
    | some xs' => xs' = xs ∧ G
    | none => False
  | .flat ts, .flat cs => cmpLs ns lenM tot ts cs G
  | .strIt s p, .strIt s' p' => (s' = s ∧ p' = p) ∧ G
  | _, _ => False
def cmpM (ns : List Nat) (lenM tot : Nat) : List Blk → List Blk → Prop → Prop
  | [], [], G => G
  | t :: ts, c :: cs, G => cmpB ns lenM tot t c (cmpM ns lenM tot ts cs G)
  | _, _, _ => False
def cmpF (ns : List Nat) (lenM tot : Nat) (fr : Fr) : Fr → Prop → Prop
  | [], G => G
  | (t, av) :: r, G => cmp1 ns lenM tot av (ren2 true (idxN ns) (fr.get t)) (cmpF ns lenM tot fr r G)
/-- names that are given up stand for none -/
def maskN : Nat → List Nat → List Blk → List Nat
  | i, _ :: ns, .dead :: tM => i :: maskN (i + 1) ns tM
  | i, n :: ns, _ :: tM => n :: maskN (i + 1) ns tM
  | _, _, _ => []
def enters (k : Nat) (tfr : Fr) (tM : List Blk) (fr : Fr) (M : List Blk) (G : Prop) : Prop :=
  (fun s : Mt => match nsOf s 0 tM.length with
    | some ns => (fun M1 => (fun nl => match below M1.length ns, ndN nl, pinsOk 0 k ns with
      | true, true, true => cmpM nl M.length M1.length tM (locM nl M1) (cmpF nl M.length M1.length fr tfr G)
      | _, _, _ => False) (maskN M1.length ns tM)) (M ++ nilsM s.nils)
    | none => False) (mtAll k tfr tM fr M)

section
variable {w0 : Base P} {w : World} {F Hp : PH} {hs : List Value} {M : List Blk} {ns : List Nat}
theorem InvS.weaken {M' : List Blk} (h : InvS w0 F Hp hs M w) (hl : M'.length = M.length)
    (hb : ∀ (i : Nat) b b' v, M[i]? = some b → M'[i]? = some b' → hs[i]? = some v → b' = .dead ∨ (b.live = true ∧ (BlkAt F Hp hs w v b → BlkAt F Hp hs w v b'))) : InvS w0 F Hp hs M' w := by
  have key : ∀ {i : Nat} {b' : Blk}, M'[i]? = some b' → ∃ b, M[i]? = some b := by
    intro i b' h'
    have := (List.getElem?_eq_some_iff.1 h').1
    exact ⟨_, List.getElem?_eq_getElem (by omega)⟩
  refine ⟨h.perm, h.fr, h.pf, by rw [hl]; exact h.len, h.one, ?_, ?_, ?_, h.os, h.tape, h.output, h.gl⟩
  · intro i b' v h1 h2
    obtain ⟨b, h3⟩ := key h1
    rcases hb i b b' v h3 h1 h2 with rfl | ⟨_, h4⟩
    · trivial
    · exact h4 (h.blk i b v h3 h2)
  · intro i b' v a h1 h2 h3 h4
    obtain ⟨b, h5⟩ := key h1
    rcases hb i b b' v h5 h1 h3 with rfl | ⟨h6, _⟩
    · simp [Blk.live] at h2
    · exact h.own i b v a h5 h6 h3 h4
  · intro i j bi bj vi vj a h1 h2 l1 l2 g1 g2 i1 i2
    obtain ⟨b, h5⟩ := key h1
    obtain ⟨c, h6⟩ := key h2
    rcases hb i b bi vi h5 h1 g1 with rfl | ⟨h7, _⟩
    · simp [Blk.live] at l1
    rcases hb j c bj vj h6 h2 g2 with rfl | ⟨h8, _⟩
    · simp [Blk.live] at l2
    exact h.inj i j b c vi vj a h5 h6 h7 h8 g1 g2 i1 i2
/-- the nil names' handles -/
def NilsAt (ns : List Nat) (lenM tot : Nat) (hs : List Value) : Prop := ∀ (i j : Nat), ns[i]? = some j → lenM ≤ j → j < tot → hs[i]? = some nilV
theorem cmp0_ok {lenM tot : Nat} {tgt cur : AV} {G : Prop} (h : cmp0 ns lenM tot tgt cur G) : G ∧ ∀ F Hp hs v, NilsAt ns lenM tot hs → Rep F Hp hs cur v → Rep F Hp hs tgt v := by
  unfold cmp0 at h
  split at h
  · exact ⟨h, fun F Hp hs v _ _ => .top v⟩
  · split at h
    · rename_i e
      have e := of_decide_eq_true e
      subst e
      obtain ⟨rfl, hG⟩ := h
      exact ⟨hG, fun F Hp hs v _ hr => hr⟩
    · exact h.elim
  · obtain ⟨rfl, hG⟩ := h
    exact ⟨hG, fun F Hp hs v _ hr => by cases hr.inv_tt; exact .val _⟩
  · obtain ⟨rfl, hG⟩ := h
    exact ⟨hG, fun F Hp hs v _ hr => by cases hr.inv_ff; exact .val _⟩
  · exact ⟨h, fun F Hp hs v _ hr => hr⟩
  · exact ⟨h, fun F Hp hs v _ hr => hr⟩
  · obtain ⟨rfl, hG⟩ := h
    exact ⟨hG, fun F Hp hs v _ hr => by cases hr.inv_val; exact .tt⟩
  · obtain ⟨rfl, hG⟩ := h
    exact ⟨hG, fun F Hp hs v _ hr => by cases hr.inv_val; exact .ff⟩
  · obtain ⟨rfl, hG⟩ := h
    exact ⟨hG, fun F Hp hs v _ hr => hr⟩
  · obtain ⟨rfl, hG⟩ := h
    exact ⟨hG, fun F Hp hs v _ hr => hr⟩
  · obtain ⟨rfl, hG⟩ := h
    exact ⟨hG, fun F Hp hs v _ hr => hr⟩
  · split at h
    · rename_i hc
      obtain ⟨e, rfl⟩ := castL_some hc
      subst e
      obtain ⟨rfl, hG⟩ := h
      exact ⟨hG, fun F Hp hs v _ hr => hr⟩
    · exact h.elim
  · obtain ⟨rfl, hG⟩ := h
    exact ⟨hG, fun F Hp hs v _ hr => by cases hr.inv_val; exact Rep.nil_sl _⟩
  · split at h
    · rename_i hc
      obtain ⟨e, rfl⟩ := castL_some hc
      subst e
      obtain ⟨rfl, hG⟩ := h
      exact ⟨hG, fun F Hp hs v _ hr => hr⟩
    · exact h.elim
  · split at h
    · rename_i hc
      obtain ⟨e, rfl⟩ := castL_some hc
      subst e
      obtain ⟨rfl, hG⟩ := h
      exact ⟨hG, fun F Hp hs v _ hr => hr.sl_lt⟩
    · exact h.elim
  · obtain ⟨rfl, hG⟩ := h
    exact ⟨hG, fun F Hp hs v _ hr => by cases hr.inv_val; exact (Rep.nil_sl _).sl_lt⟩
  · split at h
    · rename_i e
      have e := beq_nat e
      subst e
      exact ⟨h, fun F Hp hs v _ hr => hr⟩
    · exact h.elim
  · split at h
    · rename_i j hj
      split at h
      · rename_i hb hb2
        refine ⟨h, fun F Hp hs v hn hr => ?_⟩
        cases hr.inv_val
        exact .own _ _ (hn _ j hj (Nat.le_of_ble_eq_true hb) (Nat.le_of_ble_eq_true hb2))
      · exact h.elim
    · exact h.elim
  · split at h
    · rename_i e
      have e := beq_nat e
      subst e
      obtain ⟨rfl, hG⟩ := h
      exact ⟨hG, fun F Hp hs v _ hr => hr⟩
    · exact h.elim
  · split at h
    · rename_i e
      have e := beq_nat e
      subst e
      obtain ⟨⟨rfl, rfl, rfl⟩, hG⟩ := h
      exact ⟨hG, fun F Hp hs v _ hr => hr⟩
    · exact h.elim
  · split at h
    · rename_i e
      have e := beq_nat e
      subst e
      obtain ⟨⟨rfl, rfl, rfl, rfl⟩, hG⟩ := h
      exact ⟨hG, fun F Hp hs v _ hr => hr⟩
    · exact h.elim
  · exact h.elim
theorem cmpLs_ok {lenM tot : Nat} : ∀ {ts cs : List AV} {G : Prop}, cmpLs ns lenM tot ts cs G → G ∧ ∀ F Hp hs vs, NilsAt ns lenM tot hs → Reps F Hp hs cs vs → Reps F Hp hs ts vs
  | [], [], G, h => ⟨h, fun F Hp hs vs _ hr => hr⟩
  | [], _ :: _, G, h => by simp [cmpLs] at h
  | _ :: _, [], G, h => by simp [cmpLs] at h
  | t :: ts, c :: cs, G, h => by
    simp only [cmpLs] at h
    obtain ⟨h', h1⟩ := cmp0_ok h
    obtain ⟨hG, h2⟩ := cmpLs_ok h'
    refine ⟨hG, fun F Hp hs vs hn hr => ?_⟩
    obtain ⟨u, v', rfl, q1, q2⟩ := Reps.inv_cons hr
    exact .cons (h1 F Hp hs u hn q1) (h2 F Hp hs v' hn q2)
theorem cmp1_ok {lenM tot : Nat} {tgt cur : AV} {G : Prop} (h : cmp1 ns lenM tot tgt cur G) : G ∧ ∀ F Hp hs v, NilsAt ns lenM tot hs → Rep F Hp hs cur v → Rep F Hp hs tgt v := by
  unfold cmp1 at h
  split at h
  · obtain ⟨hG, h1⟩ := cmpLs_ok h
    refine ⟨hG, fun F Hp hs v hn hr => ?_⟩
    obtain ⟨vs, rfl, g⟩ := hr.inv_agg
    exact .agg _ _ (h1 F Hp hs vs hn g)
  · obtain ⟨⟨rfl, hG⟩, h1⟩ := cmpLs_ok h
    refine ⟨hG, fun F Hp hs v hn hr => ?_⟩
    cases hr with
    | rp _ _ a vs g hc => exact .rp _ _ a vs (h1 F Hp hs vs hn g) hc
  · exact cmp0_ok h
theorem cmpB_ok {lenM tot : Nat} {tgt cur : Blk} {G : Prop} (h : cmpB ns lenM tot tgt cur G) : G ∧ (tgt = .dead ∨ (cur.live = true ∧ ∀ F Hp hs w v, NilsAt ns lenM tot hs → BlkAt F Hp hs w v cur → BlkAt F Hp hs w v tgt)) := by
  unfold cmpB at h
  split at h
  · exact ⟨h, .inl rfl⟩
  · split at h
    · rename_i hc
      obtain ⟨e, rfl⟩ := castL_some hc
      subst e
      obtain ⟨rfl, hG⟩ := h
      exact ⟨hG, .inr ⟨rfl, fun F Hp hs w v _ hr => hr⟩⟩
    · exact h.elim
  · obtain ⟨hG, h1⟩ := cmpLs_ok h
    refine ⟨hG, .inr ⟨rfl, fun F Hp hs w v hn hr => ?_⟩⟩
    obtain ⟨b, T, vs, e, g1, g2⟩ := hr
    exact ⟨b, T, vs, e, g1, h1 F Hp hs vs hn g2⟩
  · obtain ⟨⟨rfl, rfl⟩, hG⟩ := h
    exact ⟨hG, .inr ⟨rfl, fun F Hp hs w v _ hr => hr⟩⟩
  · exact h.elim
theorem cmpM_ok {lenM tot : Nat} : ∀ {ts cs : List Blk} {G : Prop}, cmpM ns lenM tot ts cs G → G ∧ ts.length = cs.length ∧ ∀ (i : Nat) b b', cs[i]? = some b → ts[i]? = some b' → b' = .dead ∨ (b.live = true ∧ ∀ F Hp hs w v, NilsAt ns lenM tot hs → BlkAt F Hp hs w v b → BlkAt F Hp hs w v b')
  | [], [], G, h => ⟨h, rfl, fun i b b' h => by simp at h⟩
  | [], _ :: _, G, h => by simp [cmpM] at h
  | _ :: _, [], G, h => by simp [cmpM] at h
  | t :: ts, c :: cs, G, h => by
    simp only [cmpM] at h
    obtain ⟨h', h1⟩ := cmpB_ok h
    obtain ⟨hG, hl, h2⟩ := cmpM_ok h'
    refine ⟨hG, by simp [hl], fun i b b' q1 q2 => ?_⟩
    cases i with
    | zero => simp at q1 q2; subst q1; subst q2; exact h1
    | succ i => exact h2 i b b' (by simpa using q1) (by simpa using q2)
theorem cmpF_ok {lenM tot : Nat} {fr : Fr} : ∀ {tfr : Fr} {G : Prop}, cmpF ns lenM tot fr tfr G → G ∧ ∀ F Hp hs (tm : Nat → Value), NilsAt ns lenM tot hs → (∀ t, Rep F Hp hs (ren2 true (idxN ns) (fr.get t)) (tm t)) → ∀ t, Rep F Hp hs (tfr.get t) (tm t)
  | [], G, h => ⟨h, fun F Hp hs tm _ _ t => .top _⟩
  | (s, av) :: r, G, h => by
    simp only [cmpF] at h
    obtain ⟨h', h1⟩ := cmp1_ok h
    obtain ⟨hG, h2⟩ := cmpF_ok h'
    refine ⟨hG, fun F Hp hs tm hn hr t => ?_⟩
    simp only [Fr.get]
    split
    · rename_i e
      have e := beq_nat e
      subst e
      exact h1 F Hp hs _ hn (hr s)
    · exact h2 F Hp hs tm hn hr t
theorem pinsOk_ok : ∀ {k i : Nat} {l : List Nat}, pinsOk i k l = true → ∀ m, m < k → l[m]? = some (i + m)
  | 0, i, l, h, m, hm => by omega
  | k + 1, i, [], h, m, hm => by simp [pinsOk] at h
  | k + 1, i, j :: l, h, m, hm => by
    simp only [pinsOk] at h
    split at h
    · rename_i e
      have e := beq_nat e
      subst e
      cases m with
      | zero => rfl
      | succ m =>
        have := pinsOk_ok h m (by omega)
        simp only [List.getElem?_cons_succ, this]
        congr 1; omega
    · cases h
theorem maskN_get : ∀ {ns : List Nat} {tM : List Blk} {i m n : Nat}, (maskN m ns tM)[i]? = some n → ns.length = tM.length → n < m → ns[i]? = some n
  | [], tM, i, m, n, h, _, _ => by simp [maskN] at h
  | _ :: _, [], i, m, n, h, hl, _ => by simp at hl
  | a :: ns, b :: tM, i, m, n, h, hl, hn => by
    have hl' : ns.length = tM.length := by simpa using hl
    cases i with
    | zero =>
      cases b <;> simp [maskN] at h <;> first | (subst h; rfl) | omega
    | succ i =>
      have h' : (maskN (m + 1) ns tM)[i]? = some n := by cases b <;> simpa [maskN] using h
      have := maskN_get h' hl' (by omega)
      simpa using this
theorem maskN_len : ∀ {ns : List Nat} {tM : List Blk} {m : Nat}, ns.length = tM.length → (maskN m ns tM).length = ns.length
  | [], tM, m, _ => by simp [maskN]
  | _ :: _, [], m, hl => by simp at hl
  | a :: ns, b :: tM, m, hl => by
    have hl' : ns.length = tM.length := by simpa using hl
    have := maskN_len (m := m + 1) hl'
    cases b <;> simp [maskN, this]
theorem InvS.sub2 (hi : InvS w0 F Hp hs M w) {nl : List Nat} (hlen : nl.length = ns.length) (hnd : nl.Nodup) (hlt : ∀ n ∈ ns, n < M.length) (hnl : ∀ (i n : Nat), nl[i]? = some n → n < M.length → ns[i]? = some n) : InvS w0 F Hp (locH ns hs) (locM nl M) w := by
  have hleads : Leads (idxN nl) hs (locH ns hs) := by
    intro n m v h1 h2
    have h := idxN_ok h1
    have hn : n < M.length := by rw [← hi.len]; exact (List.getElem?_eq_some_iff.1 h2).1
    have h' := hnl m n h hn
    rw [locH_get h' (by rw [hi.len]; exact hn)]; exact h2
  have hget : ∀ {i : Nat} {blk : Blk} {v : Value}, (locM nl M)[i]? = some blk → blk.live = true → (locH ns hs)[i]? = some v → ∃ n b, nl[i]? = some n ∧ M[n]? = some b ∧ hs[n]? = some v ∧ blk = renB true (idxN nl) b := by
    intro i blk v h1 hl h2
    unfold locM at h1
    rw [List.getElem?_map] at h1
    cases hn : nl[i]? with
    | none => rw [hn] at h1; cases h1
    | some n =>
      rw [hn] at h1
      have h1 : renB true (idxN nl) (M.getD n .dead) = blk := by simpa using h1
      by_cases hlt' : n < M.length
      · have h' := hnl i n hn hlt'
        rw [locH_get h' (by rw [hi.len]; exact hlt')] at h2
        refine ⟨n, _, rfl, List.getElem?_eq_getElem hlt', h2, ?_⟩
        rw [← h1]; simp [List.getD, List.getElem?_eq_getElem hlt']
      · rw [List.getD, List.getElem?_eq_none (by omega)] at h1
        subst h1
        simp [renB, Blk.live] at hl
  refine ⟨hi.perm, hi.fr, hi.pf, by simp [locH, locM, hlen], ?_, ?_, ?_, ?_, hi.os, hi.tape, hi.output, hi.gl⟩
  · intro v hv
    unfold locH at hv
    obtain ⟨n, hn, rfl⟩ := List.mem_map.1 hv
    have := hlt n hn
    rw [← hi.len] at this
    have e : hs[n]? = some (hs.getD n undef) := by simp [List.getD, List.getElem?_eq_getElem this]
    exact hi.one _ (List.mem_of_getElem? e)
  · intro i blk v h1 h2
    by_cases hl : blk.live = true
    · obtain ⟨n, b, e1, e2, e3, rfl⟩ := hget h1 hl h2
      exact renB_ok (fun _ => PH.le.refl _) hleads (hi.blk n b v e2 e3)
    · cases blk <;> simp [Blk.live] at hl
      trivial
  · intro i blk v b h1 hl h2 hb
    obtain ⟨n, b', e1, e2, e3, rfl⟩ := hget h1 hl h2
    exact hi.own n b' v b e2 (by rwa [renB_live] at hl) e3 hb
  · intro i j bi bj vi vj b h1 h2 l1 l2 g1 g2 i1 i2
    obtain ⟨n, b1, e1, e2, e3, rfl⟩ := hget h1 l1 g1
    obtain ⟨m, b2, e4, e5, e6, rfl⟩ := hget h2 l2 g2
    have := hi.inj n m b1 b2 vi vj b e2 e5 (by rwa [renB_live] at l1) (by rwa [renB_live] at l2) e3 e6 i1 i2
    subst this
    exact nodup_get hnd e1 e4
theorem nsOf_len {s : Mt} : ∀ {m i : Nat} {l : List Nat}, nsOf s i m = some l → l.length = m
  | 0, i, l, h => by simp [nsOf] at h; subst h; rfl
  | m + 1, i, l, h => by
    simp only [nsOf] at h
    split at h
    · rename_i j l' h1 h2
      cases h
      simp [nsOf_len h2]
    · cases h
theorem enters_ok {tfr fr : Fr} {tM M : List Blk} {G : Prop} (h : enters k tfr tM fr M G) : G ∧ ∀ (w0 : Base P) F Hp hs w a, StI n k w0 F Hp hs fr M w a →
    ∃ hs', (∀ i : Nat, i < k → hs'[i]? = hs[i]?) ∧ StI n k w0 F Hp hs' tfr tM w a := by
  unfold enters at h
  generalize mtAll k tfr tM fr M = s at h
  simp only at h
  split at h
  · rename_i ns hns
    have hnl := nsOf_len hns
    split at h
    · rename_i hok hndb hpin
      have hlt := below_ok hok
      have hnd := ndN_ok hndb
      obtain ⟨h', hl, hM⟩ := cmpM_ok h
      obtain ⟨hG, hF⟩ := cmpF_ok h'
      have hp := pinsOk_ok hpin
      refine ⟨hG, fun w0 F Hp hs w a hst => ?_⟩
      have h1 := hst.inv.addNils s.nils
      have hlen1 : (hs ++ s.nils.map fun _ => nilV).length = (M ++ nilsM s.nils).length := h1.len
      have hmask : ∀ (i m : Nat), (maskN (M ++ nilsM s.nils).length ns tM)[i]? = some m → m < (M ++ nilsM s.nils).length → ns[i]? = some m := fun i m h hm => maskN_get h hnl hm
      have h2 := h1.sub2 (maskN_len hnl) hnd hlt hmask
      have hleads : Leads (idxN (maskN (M ++ nilsM s.nils).length ns tM)) (hs ++ s.nils.map fun _ => nilV) (locH ns (hs ++ s.nils.map fun _ => nilV)) := by
        intro a b v q1 q2
        have h := idxN_ok q1
        have hn : a < (M ++ nilsM s.nils).length := by rw [← hlen1]; exact (List.getElem?_eq_some_iff.1 q2).1
        rw [locH_get (hmask _ _ h hn) (by rw [hlen1]; exact hn)]; exact q2
      have hnil : NilsAt (maskN (M ++ nilsM s.nils).length ns tM) M.length (M ++ nilsM s.nils).length (locH ns (hs ++ s.nils.map fun _ => nilV)) := by
        intro i j hi hj hjl
        rw [locH_get (hmask i j hi hjl) (by omega), List.getElem?_append_right (by rw [hst.inv.len]; exact hj), List.getElem?_map]
        have : j - hs.length < s.nils.length := by
          rw [hst.inv.len]
          simp [nilsM] at hjl
          omega
        rw [List.getElem?_eq_getElem this]; rfl
      refine ⟨locH ns (hs ++ s.nils.map fun _ => nilV), fun i hi => ?_, ?_, hst.dfr, hst.sz, ?_, ?_⟩
      · have := hp i hi
        rw [Nat.zero_add] at this
        have hkl := hst.kl
        rw [locH_get this (by simp; omega), List.getElem?_append_left (by omega)]
      · refine h2.weaken (by rw [hl]) fun i b b' v q1 q2 q3 => ?_
        rcases hM i b b' q1 q2 with h | ⟨h3, h4⟩
        · exact .inl h
        · exact .inr ⟨h3, h4 F Hp _ w v hnil⟩
      · refine hF F Hp _ _ hnil fun t => ?_
        exact ren2_ok (fun _ => PH.le.refl _) hleads (Rep.mono (PH.le.refl _) (PH.le.refl _) (HL.append _ _) (hst.tm t))
      · have hkl := hst.kl
        have : k ≤ ns.length := by
          cases k with
          | zero => omega
          | succ k =>
            have := (List.getElem?_eq_some_iff.1 (hp k (by omega))).1
            omega
        simpa [locH] using this
    · exact h.elim
  · exact h.elim
end
end Go.Sx
end
section
namespace Go.Sx
open Go
variable {P : Program} {E : Env} {n k : Nat}

/-! code -/
structure Lp where
  X : Type
  fr : X → Fr
  M : X → List Blk
  inv : X → Prop
  mu : X → Nat
  rel : X → X → Prop := fun _ x => inv x
/-- the form of what is told -/
structure Lr where
  X : Type
  l : X → List AV
  M : X → List Blk
structure Cfg where
  fz : List Nat
  hd : Nat → List Nat
  lp : Nat → Option Lp
  jn : Nat → Option Nat
  ct : Nat → Option Lp
  rt : Option Lr
def fid : Code → Nat
  | .region id _ _ => id
  | .seq x _ => fid x
  | .cond _ x _ => fid x
  | .block _ c => fid c
  | .loop c => fid c
  | _ => 0
def evC (x : Operand) (fr : Fr) (M : List Blk) (yes no : Fr → List Blk → Prop) : Prop :=
  match x with
  | .tmp t => match fr.get t with
    | .tt => yes fr M
    | .ff => no fr M
    | .val (.bool c) => (c = true → yes (fr.put t .tt) M) ∧ (c = false → no (fr.put t .ff) M)
    | _ => False
  | .const (.bool b) => match b with
    | true => yes fr M
    | false => no fr M
  | _ => False
def isB (x : AV) (c : Bool) : Prop :=
  match x with
  | .tt => true = c
  | .ff => false = c
  | .val (.bool b) => b = c
  | _ => False
def evReg (E : Env) (n : Nat) (cfg : Cfg) (id : Nat) (ops : List Oper) (draw : Bool) (fr : Fr) (M : List Blk) (J : Fr → List Blk → Prop) : Prop :=
  match draw with
  | false => evOps E n cfg.fz ops ops fr M J
  | true => evDraw E n cfg.fz (cfg.hd id) ops fr M J
/-- nothing that is owned has turned -/
def Same (a b : List Blk) : Prop := a = b
/-- a condition's answer, by whichever way it is found -/
def evJoin (t : Nat) (ops : List Oper) (fr : Fr) (M : List Blk) (run : (Fr → List Blk → Prop) → Prop) (J : Fr → List Blk → Prop) : Prop :=
  ∃ c : Bool, run (fun fr' M' => Same M' M ∧ isB (fr'.get t) c) ∧ J ((maskF ops fr).put t (.val (.bool c))) M
def evCode (E : Env) (n k : Nat) (cfg : Cfg) : Code → Fr → List Blk → (Exit → Fr → List Blk → Prop) → Prop
  | .skip, fr, M, Q => Q .normal fr M
  | .region id ops draw, fr, M, Q => match cfg.jn id with
    | none => evReg E n cfg id ops.toList draw fr M (Q .normal)
    | some t => evJoin t ops.toList fr M (evReg E n cfg id ops.toList draw fr M) (Q .normal)
  | .seq x y, fr, M, Q => match cfg.ct (fid y) with
    | none => evCode E n k cfg x fr M fun e fr' M' => match e with
      | .normal => evCode E n k cfg y fr' M' Q
      | e => Q e fr' M'
    | some L => (evCode E n k cfg x fr M fun e fr' M' => match e with
      | .normal => ∃ s, L.inv s ∧ enters k (L.fr s) (L.M s) fr' M' True
      | e => Q e fr' M') ∧ ∀ s, L.inv s → evCode E n k cfg y (L.fr s) (L.M s) Q
  | .cond c x y, fr, M, Q => evC c fr M (fun fr M => evCode E n k cfg x fr M Q) (fun fr M => evCode E n k cfg y fr M Q)
  | .block id c, fr, M, Q => evCode E n k cfg c fr M fun e fr' M' => match e with
    | .exit id' => match Nat.beq id' id with
      | true => Q .normal fr' M'
      | false => Q (.exit id') fr' M'
    | e => Q e fr' M'
  | .loop c, fr, M, Q => match cfg.lp (fid c) with
    | some L => ∃ x0, L.rel x0 x0 ∧ enters k (L.fr x0) (L.M x0) fr M (∀ x, L.rel x0 x → evCode E n k cfg c (L.fr x) (L.M x) fun e fr' M' => match e with
      | .normal => ∃ x', (L.rel x0 x' ∧ L.mu x' < L.mu x) ∧ enters k (L.fr x') (L.M x') fr' M' True
      | e => Q e fr' M')
    | none => False
  | .exit id, fr, M, Q => Q (.exit id) fr M
  | .ret, fr, M, Q => Q .ret fr M
  | _, _, _, _ => False

def CRun (P : Program) (c : Code) (e : Exit) (K : Act → World → Prop) (a : Act) (w : World) : Prop :=
  ∀ Q : Exit → Act → World → Prop, (∀ a w, K a w → Q e a w) → c.wp P Q a w
theorem Goes.comp {W1 W2 W : (Act → World → Prop) → Act → World → Prop} {fr fr1 fr2 : Fr} {M M1 M2 : List Blk} (h1 : Goes P n k W1 fr M fr1 M1) (h2 : Goes P n k W2 fr1 M1 fr2 M2)
    (hW : ∀ K a w, W1 (W2 K) a w → W K a w) : Goes P n k W fr M fr2 M2 := by
  intro w0 F Hp hs w a K hst hk
  refine hW K a w (h1 w0 F Hp hs w a _ hst fun Hp' hs' w' a' hle hpin hst' => ?_)
  exact h2 w0 F Hp' hs' w' a' K hst' fun Hp'' hs'' w'' a'' hle' hpin' hst'' => hk Hp'' hs'' w'' a'' (hle.trans hle') (fun i hi => (hpin' i hi).trans (hpin i hi)) hst''
theorem Goes.map {W1 W : (Act → World → Prop) → Act → World → Prop} {fr fr1 : Fr} {M M1 : List Blk} (h1 : Goes P n k W1 fr M fr1 M1) (hW : ∀ K a w, W1 K a w → W K a w) : Goes P n k W fr M fr1 M1 :=
  fun w0 F Hp hs w a K hst hk => hW K a w (h1 w0 F Hp hs w a K hst hk)
/-- a state is led to another one, and nothing runs -/
theorem Goes.pre {W : (Act → World → Prop) → Act → World → Prop} {fr fr0 fr1 : Fr} {M M0 M1 : List Blk} (h : Goes P n k W fr M fr1 M1)
    (h0 : ∀ (w0 : Base P) F Hp hs w a, StI n k w0 F Hp hs fr0 M0 w a → ∃ hs', (∀ i : Nat, i < k → hs'[i]? = hs[i]?) ∧ StI n k w0 F Hp hs' fr M w a) : Goes P n k W fr0 M0 fr1 M1 := by
  intro w0 F Hp hs w a K hst hk
  obtain ⟨hs', hpin, hst'⟩ := h0 w0 F Hp hs w a hst
  exact h w0 F Hp hs' w a K hst' fun Hp'' hs'' w'' a'' hle' hpin' hst'' => hk Hp'' hs'' w'' a'' hle' (fun i hi => (hpin' i hi).trans (hpin i hi)) hst''

/-- rounds of a loop -/
def LWp (P : Program) (c : Code) (Q : Exit → Act → World → Prop) (a : Act) (w : World) : Prop :=
  ∀ (b : Frame) (k : List Item) (cs : List Frame), ∃ e a' w', Q e a' w' ∧ Arrives P (lone (b.at a (.code c :: .inLoop c :: k)) cs w) b k cs e a' w'
theorem LWp.loop {c : Code} {Q : Exit → Act → World → Prop} {a : Act} {w : World} (h : LWp P c Q a w) : (Code.loop c).wp P Q a w := by
  intro b k cs
  obtain ⟨e, a', w', hq, harr⟩ := h b k cs
  exact ⟨e, a', w', hq, .of_steps (.one step_loop) harr⟩
theorem LWp.round {c : Code} {Q : Exit → Act → World → Prop} {a : Act} {w : World} (h : c.wp P (Exit.then (LWp P c Q) Q) a w) : LWp P c Q a w := by
  intro b k cs
  obtain ⟨e, a₁, w₁, hq, harr⟩ := h b (.inLoop c :: k) cs
  cases e with
  | normal =>
    obtain ⟨e₂, a₂, w₂, hq₂, harr₂⟩ := hq b k cs
    exact ⟨e₂, a₂, w₂, hq₂, .of_steps (Steps.trans harr (.one step_inLoop)) harr₂⟩
  | exit id => exact ⟨_, a₁, w₁, hq, .pass (x := .inLoop c) rfl (fun _ _ => .inl (by simp)) harr⟩
  | goto l => exact ⟨_, a₁, w₁, hq, .pass (x := .inLoop c) rfl (fun _ _ => .inl (by simp)) harr⟩
  | ret => exact ⟨_, a₁, w₁, hq, .pass (x := .inLoop c) rfl (fun _ _ => .inl (by simp)) harr⟩
  | panic ch => exact ⟨_, a₁, w₁, hq, .pass (x := .inLoop c) rfl (fun _ _ => .inl (by simp)) harr⟩
  | outgrown => exact ⟨_, a₁, w₁, hq, .pass (x := .inLoop c) rfl (fun _ _ => .inl (by simp)) harr⟩
def LRun (P : Program) (c : Code) (e : Exit) (K : Act → World → Prop) (a : Act) (w : World) : Prop :=
  ∀ Q : Exit → Act → World → Prop, (∀ a w, K a w → Q e a w) → LWp P c Q a w

theorem evC_ok {x : Operand} {fr : Fr} {M : List Blk} {yes no : Fr → List Blk → Prop} (h : evC x fr M yes no) :
    ∃ (c : Bool) (fr' : Fr), (if c = true then yes fr' M else no fr' M) ∧ ∀ (w0 : Base P) F Hp hs w a, StI n k w0 F Hp hs fr M w a → StI n k w0 F Hp hs fr' M w a ∧ a.eval x = .bool c := by
  unfold evC at h
  split at h
  · rename_i t
    split at h
    · rename_i e
      exact ⟨true, fr, by simpa using h, fun w0 F Hp hs w a hst => ⟨hst, by have := hst.tm t; rw [e] at this; exact this.inv_tt⟩⟩
    · rename_i e
      exact ⟨false, fr, by simpa using h, fun w0 F Hp hs w a hst => ⟨hst, by have := hst.tm t; rw [e] at this; exact this.inv_ff⟩⟩
    · rename_i c e
      have hval : ∀ (w0 : Base P) F Hp hs w a, StI n k w0 F Hp hs fr M w a → a.tmps.getD t undef = .bool c := fun w0 F Hp hs w a hst => by
        have := hst.tm t; rw [e] at this; exact this.inv_val
      cases c with
      | true => exact ⟨true, _, by simpa using h.1 rfl, fun w0 F Hp hs w a hst => ⟨hst.know (by rw [hval w0 F Hp hs w a hst]; exact .tt), hval w0 F Hp hs w a hst⟩⟩
      | false => exact ⟨false, _, by simpa using h.2 rfl, fun w0 F Hp hs w a hst => ⟨hst.know (by rw [hval w0 F Hp hs w a hst]; exact .ff), hval w0 F Hp hs w a hst⟩⟩
    · exact h.elim
  · rename_i b
    cases b with
    | true => exact ⟨true, fr, by simpa using h, fun w0 F Hp hs w a hst => ⟨hst, rfl⟩⟩
    | false => exact ⟨false, fr, by simpa using h, fun w0 F Hp hs w a hst => ⟨hst, rfl⟩⟩
  · exact h.elim

theorem evCode_ok (hE : EnvOk P E) (hm : P.follows .mixedOrders = true) {cfg : Cfg} : ∀ (c : Code) {fr : Fr} {M : List Blk} {Q : Exit → Fr → List Blk → Prop}, evCode E n k cfg c fr M Q →
    ∃ e fr' M', Q e fr' M' ∧ Goes P n k (CRun P c e) fr M fr' M'
  | .skip, fr, M, Q, h => ⟨.normal, fr, M, h, fun w0 F Hp hs w a K hst hk Q hq => wp_skip (hq _ _ (hk Hp hs w a (PH.le.refl _) (fun _ _ => rfl) hst))⟩
  | .region id ops draw, fr, M, Q, h => by
    have hreg : ∀ {J : Fr → List Blk → Prop}, evReg E n cfg id ops.toList draw fr M J → ∃ fr' M', J fr' M' ∧ GoesO P n k (dstsN ops.toList) (CRun P (.region id ops draw) .normal) fr M fr' M' := by
      intro J h
      unfold evReg at h
      split at h
      · obtain ⟨fr', M', hK, hgo⟩ := evReg_ok (k := k) hE h
        exact ⟨fr', M', hK, fun w0 F Hp hs w a K hst hk Q hq => wp_region (hgo w0 F Hp hs w a K hst hk Q hq)⟩
      · obtain ⟨fr', M', hK, hgo⟩ := evDraw_ok (k := k) hE h
        refine ⟨fr', M', hK, fun w0 F Hp hs w a K hst hk Q hq => wp_region_any hm ?_⟩
        exact hgo w0 F Hp hs w.drew a K ⟨hst.inv.drew, hst.dfr, hst.sz, hst.tm, hst.kl⟩ hk Q hq
    simp only [evCode] at h
    split at h
    · obtain ⟨fr', M', hK, hgo⟩ := hreg h
      exact ⟨.normal, fr', M', hK, hgo.goes⟩
    · rename_i t ht
      obtain ⟨c, hrun, hJ⟩ := h
      obtain ⟨fr', M', ⟨hsame0, hb⟩, hgo⟩ := hreg hrun
      have hsame0 : M' = _ := hsame0
      subst hsame0
      refine ⟨.normal, _, _, hJ, fun w0 F Hp hs w a K hst hk => ?_⟩
      refine hgo w0 F Hp hs w a K hst fun Hp' hs' w' a' hle hl hst' hsame => hk Hp' hs' w' a' hle (pin_of_HL hst.kl hl) ?_
      refine ⟨hst'.inv, hst'.dfr, hst'.sz, fun s => ?_, hst'.kl⟩
      rw [Fr.get_put]
      split
      · rename_i e
        subst e
        have := hst'.tm t
        have hv : a'.tmps.getD t undef = .bool c := by
          unfold isB at hb
          split at hb
          · rename_i e; rw [e] at this; rw [this.inv_tt, ← hb]
          · rename_i e; rw [e] at this; rw [this.inv_ff, ← hb]
          · rename_i e; rw [e] at this; rw [this.inv_val, ← hb]
          · exact hb.elim
        rw [hv]; exact .val _
      · exact mask_holds (tm := fun q => a'.tmps.getD q undef) ops.toList fr (fun q hq => by show Rep F Hp' hs' (fr.get q) (a'.tmps.getD q undef); rw [hsame q hq]; exact Rep.mono (PH.le.refl _) hle hl (hst.tm q)) s
  | .seq x y, fr, M, Q, h => by
    simp only [evCode] at h
    split at h
    · obtain ⟨e1, fr1, M1, h1, hgo1⟩ := evCode_ok hE hm x h
      split at h1
      · obtain ⟨e2, fr2, M2, h2, hgo2⟩ := evCode_ok hE hm y h1
        refine ⟨e2, fr2, M2, h2, hgo1.comp hgo2 fun K a w hr Q hq => wp_seq ?_⟩
        exact hr _ fun a w h => h Q hq
      · rename_i hne
        refine ⟨e1, fr1, M1, h1, hgo1.map fun K a w hr Q hq => wp_seq (hr _ fun a w h => ?_)⟩
        cases e1 <;> first | exact absurd rfl hne | exact hq a w h
    · rename_i L hL
      obtain ⟨e1, fr1, M1, h1, hgo1⟩ := evCode_ok hE hm x h.1
      split at h1
      · obtain ⟨s, hs, hent⟩ := h1
        obtain ⟨_, hst1⟩ := enters_ok (P := P) (n := n) hent
        obtain ⟨e2, fr2, M2, h2, hgo2⟩ := evCode_ok hE hm y (h.2 s hs)
        refine ⟨e2, fr2, M2, h2, hgo1.comp (hgo2.pre hst1) fun K a w hr Q hq => wp_seq ?_⟩
        exact hr _ fun a w h => h Q hq
      · rename_i hne
        refine ⟨e1, fr1, M1, h1, hgo1.map fun K a w hr Q hq => wp_seq (hr _ fun a w h => ?_)⟩
        cases e1 <;> first | exact absurd rfl hne | exact hq a w h
  | .cond c x y, fr, M, Q, h => by
    simp only [evCode] at h
    obtain ⟨b, fr1, h1, hst1⟩ := evC_ok (n := n) (k := k) h
    cases b with
    | true =>
      obtain ⟨e, fr', M', hQ, hgo⟩ := evCode_ok hE hm x (by simpa using h1)
      refine ⟨e, fr', M', hQ, fun w0 F Hp hs w a K hst hk Q hq => ?_⟩
      obtain ⟨q1, q2⟩ := hst1 w0 F Hp hs w a hst
      exact wp_cond_true q2 (hgo w0 F Hp hs w a K q1 hk Q hq)
    | false =>
      obtain ⟨e, fr', M', hQ, hgo⟩ := evCode_ok hE hm y (by simpa using h1)
      refine ⟨e, fr', M', hQ, fun w0 F Hp hs w a K hst hk Q hq => ?_⟩
      obtain ⟨q1, q2⟩ := hst1 w0 F Hp hs w a hst
      exact wp_cond_false q2 (hgo w0 F Hp hs w a K q1 hk Q hq)
  | .block id c, fr, M, Q, h => by
    simp only [evCode] at h
    obtain ⟨e, fr', M', h1, hgo⟩ := evCode_ok hE hm c h
    split at h1
    · rename_i id'
      split at h1
      · rename_i hid
        have hid := beq_nat hid
        subst hid
        exact ⟨.normal, fr', M', h1, hgo.map fun K a w hr Q hq => wp_block (hr _ fun a w h => by simp only [Exit.inBlock, if_true]; exact hq a w h)⟩
      · rename_i hid
        have hne : id' ≠ id := fun e => by subst e; simp at hid
        exact ⟨.exit id', fr', M', h1, hgo.map fun K a w hr Q hq => wp_block (hr _ fun a w h => by simp only [Exit.inBlock, hne, if_false]; exact hq a w h)⟩
    · rename_i hne
      refine ⟨e, fr', M', h1, hgo.map fun K a w hr Q hq => wp_block (hr _ fun a w h => ?_)⟩
      cases e <;> first | exact hq a w h | exact absurd rfl (hne _)
  | .loop c, fr, M, Q, h => by
    simp only [evCode] at h
    split at h
    · rename_i L hL
      obtain ⟨x0, hx0, hent⟩ := h
      obtain ⟨hbody, hent'⟩ := enters_ok (n := n) hent
      have key : ∀ (m : Nat) x, L.mu x = m → L.rel x0 x → ∃ e fr' M', Q e fr' M' ∧ Goes P n k (LRun P c e) (L.fr x) (L.M x) fr' M' := by
        intro m
        induction m using Nat.strongRecOn with
        | _ m ih =>
          intro x hx hinv
          obtain ⟨e1, fr1, M1, h1, hgo1⟩ := evCode_ok hE hm c (hbody x hinv)
          split at h1
          · obtain ⟨x', ⟨hinv', hmu⟩, hent1⟩ := h1
            obtain ⟨_, hst1⟩ := enters_ok (n := n) hent1
            obtain ⟨e, fr', M', hQ, hgo⟩ := ih (L.mu x') (by omega) x' rfl hinv'
            refine ⟨e, fr', M', hQ, hgo1.comp (hgo.pre hst1) fun K a w hr Q hq => LWp.round (hr _ fun a w h => ?_)⟩
            exact h Q hq
          · rename_i hne
            refine ⟨e1, fr1, M1, h1, hgo1.map fun K a w hr Q hq => LWp.round (hr _ fun a w h => ?_)⟩
            cases e1 <;> first | exact absurd rfl hne | exact hq a w h
      obtain ⟨e, fr', M', hQ, hgo⟩ := key _ x0 rfl hx0
      exact ⟨e, fr', M', hQ, (hgo.pre hent').map fun K a w hr Q hq => (hr Q hq).loop⟩
    · exact h.elim
  | .exit id, fr, M, Q, h => ⟨.exit id, fr, M, h, fun w0 F Hp hs w a K hst hk Q hq => wp_exit (hq _ _ (hk Hp hs w a (PH.le.refl _) (fun _ _ => rfl) hst))⟩
  | .ret, fr, M, Q, h => ⟨.ret, fr, M, h, fun w0 F Hp hs w a K hst hk Q hq => wp_ret (hq _ _ (hk Hp hs w a (PH.le.refl _) (fun _ _ => rfl) hst))⟩
  | .rangeFunc .., fr, M, Q, h => by simp [evCode] at h
  | .scope .., fr, M, Q, h => by simp [evCode] at h
  | .label .., fr, M, Q, h => by simp [evCode] at h
  | .goto .., fr, M, Q, h => by simp [evCode] at h
  | .refuse .., fr, M, Q, h => by simp [evCode] at h
end Go.Sx
end
section
namespace Go.Sx
open Go
variable {P : Program} {E : Env} {n k : Nat}

/-! functions -/
def evRes (E : Env) : List ResultVar → Fr → List Blk → (List AV → Prop) → Prop
  | [], _, _, J => J []
  | .tmp t :: r, fr, M, J => evRes E r fr M fun l => J (fr.get t :: l)
  | .cell a t :: r, fr, M, J => evLoad E.ty M t (fr.get a) fun av => evRes E r fr M fun l => J (av :: l)
def argsF : Nat → List AV → Fr
  | _, [] => []
  | i, x :: r => (i, x) :: argsF (i + 1) r
def one (l : List AV) : AV :=
  match l with
  | [x] => x
  | l => .tup l
def evRet (k : Nat) (rt : Option Lr) (l : List AV) (M : List Blk) (K : AV → List Blk → Prop) : Prop :=
  match rt with
  | none => K (one (l.map nrm)) M
  | some R => ∃ x, enters k (argsF 0 (R.l x)) (R.M x) (argsF 0 l) M (match Nat.beq (R.l x).length l.length with
    | true => K (one (R.l x)) (R.M x)
    | false => False)
def evFn (E : Env) (fn : Func) (cfg : Cfg) (ags : List AV) (M : List Blk) (K : AV → List Blk → Prop) : Prop :=
  match fn.body, Nat.ble ags.length fn.ntmps, Nat.ble fn.results.size 3 with
  | some c, true, true => evCode E fn.ntmps M.length cfg c (argsF 0 ags) M fun e fr M' => match e with
    | .normal => evRes E fn.results.toList fr M' fun l => evRet M.length cfg.rt l M' K
    | .ret => evRes E fn.results.toList fr M' fun l => evRet M.length cfg.rt l M' K
    | _ => False
  | _, _, _ => False
def readRes (tmps : Array Value) : ResultVar → Sem Value
  | .tmp t => pure (tmps.getD t undef)
  | .cell a t => do loadVar t (← asAddr (tmps.getD a undef))
def oneV (l : List Value) : Value :=
  match l with
  | [x] => x
  | l => .tuple l.toArray
theorem run_results {fn : Func} (hs : fn.results.size ≤ 3) {tmps : Array Value} {w : World} {vs : List Value} (hl : vs.length = fn.results.toList.length)
    (h : ∀ (i : Nat) r v, fn.results.toList[i]? = some r → vs[i]? = some v → (readRes tmps r).run P w = .ok v w) : (results fn tmps).run P w = .ok (oneV vs) w := by
  have hr : fn.results = fn.results.toList.toArray := by simp
  have e : results fn tmps = (do
      let vs ← fn.results.mapM (readRes tmps)
      pure (if h : vs.size = 1 then vs[0] else .tuple vs)) := by
    unfold results
    congr 1
  rw [e]
  rw [hr]
  have hs' : fn.results.toList.length ≤ 3 := by simpa using hs
  revert h hl hs'
  generalize fn.results.toList = l
  intro hl h hs
  match l, vs, hl, h, hs with
  | [], [], _, _, _ => simp [oneV]
  | [a], [x], _, h, _ => 
    have h0 := h 0 a x rfl rfl
    simp [oneV, h0]
  | [a, b], [x, y], _, h, _ =>
    have h0 := h 0 a x rfl rfl
    have h1 := h 1 b y rfl rfl
    simp [oneV, h0, h1]
  | [a, b, c], [x, y, z], _, h, _ =>
    have h0 := h 0 a x rfl rfl
    have h1 := h 1 b y rfl rfl
    have h2 := h 2 c z rfl rfl
    simp [oneV, h0, h1, h2]
  | _ :: _ :: _ :: _ :: _, _, _, _, hs => simp at hs
theorem evRes_ok (hE : EnvOk P E) : ∀ (rs : List ResultVar) {fr : Fr} {M : List Blk} {J : List AV → Prop}, evRes E rs fr M J → ∃ l, J l ∧ ∀ (w0 : Base P) F Hp hs w a, StI n k w0 F Hp hs fr M w a →
    ∃ vs, vs.length = rs.length ∧ Reps F Hp hs l vs ∧ ∀ (i : Nat) r v, rs[i]? = some r → vs[i]? = some v → (readRes a.tmps r).run P w = .ok v w
  | [], fr, M, J, h => ⟨[], h, fun w0 F Hp hs w a hst => ⟨[], rfl, .nil, fun i r v h => by simp at h⟩⟩
  | .tmp t :: r, fr, M, J, h => by
    simp only [evRes] at h
    obtain ⟨l, hJ, hl⟩ := evRes_ok hE r h
    refine ⟨_, hJ, fun w0 F Hp hs w a hst => ?_⟩
    obtain ⟨vs, h1, h2, h3⟩ := hl w0 F Hp hs w a hst
    refine ⟨_ :: vs, by simp [h1], .cons (hst.tm t) h2, fun i q v q1 q2 => ?_⟩
    cases i with
    | zero => simp at q1 q2; subst q1; subst q2; simp [readRes]
    | succ i => exact h3 i q v (by simpa using q1) (by simpa using q2)
  | .cell p t :: r, fr, M, J, h => by
    simp only [evRes] at h
    obtain ⟨av, hK, hav⟩ := evLoad_ok (P := P) hE.ty h
    obtain ⟨l, hJ, hl⟩ := evRes_ok hE r hK
    refine ⟨_, hJ, fun w0 F Hp hs w a hst => ?_⟩
    obtain ⟨vs, h1, h2, h3⟩ := hl w0 F Hp hs w a hst
    obtain ⟨v, g1, g2⟩ := hav w0 F Hp hs w _ hst.inv (hst.tm p)
    refine ⟨v :: vs, by simp [h1], .cons g2 h2, fun i q u q1 q2 => ?_⟩
    cases i with
    | zero =>
      simp at q1 q2; subst q1; subst q2
      have hx := g1
      simp only [readRes, Instr.loadAt] at hx ⊢
      revert hx
      generalize a.tmps.getD p undef = u
      intro hx
      cases u with
      | pointer q => cases q with
        | none => simp [Instr.sureAddr, stuck] at hx
        | some ad => simpa [Instr.sureAddr, asAddr] using hx
      | _ => simp [Instr.sureAddr, stuck] at hx
    | succ i => exact h3 i q u (by simpa using q1) (by simpa using q2)
theorem argsF_get : ∀ (ags : List AV) (i t : Nat), (argsF i ags).get t = if i ≤ t then (ags[t - i]?).getD .top else .top
  | [], i, t => by simp [argsF, Fr.get]
  | x :: r, i, t => by
    simp only [argsF, Fr.get]
    split
    · rename_i e
      have e := beq_nat e
      subst e
      simp
    · rename_i e
      have e : i ≠ t := fun x => by subst x; simp at e
      rw [argsF_get r (i + 1) t]
      by_cases h : i ≤ t
      · rw [if_pos h, if_pos (by omega), show t - i = (t - (i + 1)) + 1 by omega, List.getElem?_cons_succ]
      · rw [if_neg h, if_neg (by omega)]
theorem reps_of_args {F Hp : PH} {hs : List Value} : ∀ {l : List AV} {vs : List Value} {i : Nat}, l.length = vs.length → (∀ t, t < vs.length → Rep F Hp hs ((argsF i l).get (i + t)) (vs.getD t undef)) → Reps F Hp hs l vs
  | [], [], i, _, _ => .nil
  | [], _ :: _, i, h, _ => by simp at h
  | _ :: _, [], i, h, _ => by simp at h
  | x :: l, v :: vs, i, h, g => by
    refine .cons ?_ (reps_of_args (i := i + 1) (by simpa using h) fun t ht => ?_)
    · have := g 0 (by simp)
      simpa [argsF, Fr.get] using this
    · have := g (t + 1) (by simpa using ht)
      rw [argsF_get, if_pos (by omega)] at this ⊢
      rw [show i + (t + 1) - i = t + 1 by omega] at this
      rw [show i + 1 + t - (i + 1) = t by omega]
      simpa using this
theorem evRet_ok {k0 : Nat} {rt : Option Lr} {l : List AV} {M : List Blk} {K : AV → List Blk → Prop} (h : evRet k0 rt l M K) : ∃ l' M', K (one l') M' ∧ ∀ (w0 : Base P) F Hp hs w vs, InvS w0 F Hp hs M w → k0 ≤ hs.length → Reps F Hp hs l vs →
    ∃ hs', (∀ i : Nat, i < k0 → hs'[i]? = hs[i]?) ∧ InvS w0 F Hp hs' M' w ∧ Reps F Hp hs' l' vs := by
  unfold evRet at h
  split at h
  · exact ⟨l.map nrm, M, h, fun w0 F Hp hs w vs hi _ hr => ⟨hs, fun _ _ => rfl, hi, reps_map nrm_ok hr⟩⟩
  · rename_i R
    obtain ⟨x, hx⟩ := h
    obtain ⟨hK, hst⟩ := enters_ok (P := P) (n := l.length) hx
    have hlen : (R.l x).length = l.length ∧ K (one (R.l x)) (R.M x) := by
      split at hK
      · rename_i e; exact ⟨beq_nat e, hK⟩
      · exact hK.elim
    obtain ⟨hlen, hK⟩ := hlen
    refine ⟨_, _, hK, fun w0 F Hp hs w vs hi hk hr => ?_⟩
    have hvl := hr.length
    obtain ⟨hs', hpin, hst'⟩ := hst w0 F Hp hs w ⟨vs.toArray, []⟩ ⟨hi, rfl, by simp [hvl], fun t => by
      rw [argsF_get, if_pos (Nat.zero_le _), Nat.sub_zero]
      cases ha : l[t]? with
      | none => exact .top _
      | some y =>
        obtain ⟨u, h1, h2⟩ := hr.get t y ha
        rw [Array.getD_eq_getD_getElem?]
        simp only [List.getElem?_toArray, h1]
        exact h2, hk⟩
    refine ⟨hs', hpin, hst'.inv, reps_of_args (i := 0) (by omega) fun t ht => ?_⟩
    have := hst'.tm t
    rw [Array.getD_eq_getD_getElem?] at this
    simpa [List.getD, List.getElem?_toArray] using this
theorem fn_ok2 (hE : EnvOk P E) (hm : P.follows .mixedOrders = true) {f : FuncId} {fn : Func} (hf : P.funcs[f]? = some fn) (hname : (fn.name == "runtime.NumGoroutine") = false) (c : Con)
    (h : ∀ ags M K, c.ev ags M K → ∃ cfg, evFn E fn cfg ags M K) : ConOk P f c := by
  intro ags M K hc
  obtain ⟨cfg, h⟩ := h ags M K hc
  unfold evFn at h
  split at h
  · rename_i code hbody hlen hres
    have hlen := Nat.le_of_ble_eq_true hlen
    have hres := Nat.le_of_ble_eq_true hres
    obtain ⟨e, fr', M', hQ, hgo⟩ := evCode_ok hE hm code h
    have hQ' : (e = .normal ∨ e = .ret) ∧ evRes E fn.results.toList fr' M' fun l => evRet M.length cfg.rt l M' K := by
      split at hQ
      · exact ⟨.inl rfl, hQ⟩
      · exact ⟨.inr rfl, hQ⟩
      · exact hQ.elim
    obtain ⟨he, hQ'⟩ := hQ'
    obtain ⟨l, hK, hl⟩ := evRes_ok (n := fn.ntmps) (k := M.length) hE _ hQ'
    obtain ⟨l', M2, hK, hret⟩ := evRet_ok (P := P) hK
    refine ⟨_, _, hK, fun w0 F Hp hs w vs hi hr => ⟨⟨fn, code, hf, hname, hbody⟩, ?_⟩⟩
    have hvl := hr.length
    have hst : StI fn.ntmps M.length w0 F Hp hs (argsF 0 ags) M w { tmps := vs.toArray ++ Array.replicate (fn.ntmps - vs.toArray.size) undef, defers := [] } := by
      refine ⟨hi, rfl, by simp; omega, fun t => ?_, by rw [hi.len]; exact Nat.le_refl _⟩
      rw [argsF_get, if_pos (Nat.zero_le _), Nat.sub_zero]
      cases ha : ags[t]? with
      | none => exact .top _
      | some x =>
        obtain ⟨u, h1, h2⟩ := hr.get t x ha
        have hlt := (List.getElem?_eq_some_iff.1 h1).1
        rw [Array.getD_eq_getD_getElem?, Array.getElem?_append_left (by simpa using hlt)]
        simp only [List.getElem?_toArray, h1]
        exact h2
    refine calls_of_wp hf hbody (hgo w0 F Hp hs w _ (fun a' w' => a'.defers = [] ∧ ∃ v, (results fn a'.tmps).run P w' = .ok v w' ∧ ∃ Hp' hs', Hp.le Hp' ∧ (∀ i : Nat, i < M.length → hs'[i]? = hs[i]?) ∧ InvS w0 F Hp' hs' M2 w' ∧ Rep F Hp' hs' (one l') v) hst (fun Hp' hs' w' a' hle hpin hst' => ?_) _ ?_)
    · obtain ⟨us, q1, q2, q3⟩ := hl w0 F Hp' hs' w' a' hst'
      obtain ⟨hs2, hpin2, hi2, q2'⟩ := hret w0 F Hp' hs' w' us hst'.inv hst'.kl q2
      refine ⟨hst'.dfr, oneV us, run_results hres q1 q3, Hp', hs2, hle, fun i hi => (hpin2 i hi).trans (hpin i hi), hi2, ?_⟩
      unfold one oneV
      cases q2' with
      | nil => exact .tup _ _ .nil
      | cons h t => cases t with
        | nil => exact h
        | cons h' t => exact .tup _ _ (.cons h (.cons h' t))
    · intro a' w' hk
      rcases he with rfl | rfl <;> exact hk
  · exact h.elim
theorem fn_ok (hE : EnvOk P E) (hm : P.follows .mixedOrders = true) {f : FuncId} {fn : Func} (hf : P.funcs[f]? = some fn) (hname : (fn.name == "runtime.NumGoroutine") = false) (c : Con) (cfg : Cfg)
    (h : ∀ ags M K, c.ev ags M K → evFn E fn cfg ags M K) : ConOk P f c := fn_ok2 hE hm hf hname c fun ags M K hc => ⟨cfg, h ags M K hc⟩
end Go.Sx
end
section
namespace Go.Sx
open Go Go.RowKit
variable {P : Program}

/-! the table of a program's types -/
def tkOf : TypeDesc → TK
  | .int k => .int k
  | .bool => .bool
  | .string => .str
  | .slice e => .slice e
  | .pointer e => .ptr e
  | .struct fs => .strct (fs.toList.map fun f => (f.offset, f.type))
  | .interface _ => .iface
  | _ => .other
def isArr : TypeDesc → Bool
  | .array _ _ => true
  | _ => false
def tyOf (P : Program) (kd : TypeId → Option Kd) : Ty := fun t =>
  match P.info? t, P.underlying t with
  | some i, some u => match i.zero with
    | some z => match isArr u, Nat.beq z.cells.size i.size with
      | false, true => some ⟨tkOf u, i.size, i.bytes, z.cells.toList, kd t⟩
      | _, _ => none
    | none => none
  | _, _ => none
theorem tyOf_ok (kd : TypeId → Option Kd) : TyOk P (tyOf P kd) := by
  intro t d h
  unfold tyOf at h
  split at h
  · rename_i i u hi hu
    split at h
    · rename_i z hz
      split at h
      · rename_i ha hs
        have hs := beq_nat hs
        cases h
        refine ⟨u, i, hi, hu, ?_, ?_, ?_, rfl, rfl, ⟨z, hz, rfl⟩, by simpa using hs⟩
        · cases u <;> simp [tkOf, TK.fits]
        · cases u <;> simp [tkOf, TK.agg, isArr] at ha ⊢
        · intro hne ms e
          subst e
          exact hne rfl
      · cases h
    · cases h
  · cases h
/-- more memory, and nothing of it is named -/
theorem InvS.grow {w0 : Base P} {F Hp : PH} {hs : List Value} {M : List Blk} {w w' : World} (hi : InvS w0 F Hp hs M w) (h : Below w.heap.size w w') : InvS w0 F Hp hs M w' := by
  refine ⟨fun b o hb => ?_, fun b o hb => ?_, hi.pf, hi.len, hi.one, fun n blk v h1 h2 => ?_, hi.own, hi.inj, h.os.trans hi.os, h.tape.trans hi.tape, h.output.trans hi.output, hi.gl⟩
  · rw [h.block b (hi.perm_lt hb)]; exact hi.perm b o hb
  · rw [h.block b (hi.fr_lt hb)]; exact hi.fr b o hb
  · by_cases hl : blk.live = true
    · exact (hi.blk n blk v h1 h2).mono (PH.le.refl _) (PH.le.refl _) (HL.refl _) fun b hb => h.block b (hi.id_lt h1 hl h2 hb)
    · cases blk <;> simp [Blk.live] at hl
      trivial
/-- a contract of the library's, that leaves all as it was -/
theorem con_of_calls {f : FuncId} {fn : Func} {code : Code} (hf : P.funcs[f]? = some fn) (hname : (fn.name == "runtime.NumGoroutine") = false) (hbody : fn.body = some code) (c : Con)
    (h : ∀ ags M K, c.ev ags M K → ∃ av, K av M ∧ ∀ (w0 : Base P) F Hp hs w vs, InvS w0 F Hp hs M w → Reps F Hp hs ags vs →
      Calls P f vs.toArray w fun e w' => ∃ v, e = .returned v ∧ Below w.heap.size w w' ∧ Rep F Hp hs av v) : ConOk P f c := by
  intro ags M K hc
  obtain ⟨av, hK, hrun⟩ := h ags M K hc
  refine ⟨av, M, hK, fun w0 F Hp hs w vs hi hr => ⟨⟨fn, code, hf, hname, hbody⟩, Calls.mono (hrun w0 F Hp hs w vs hi hr) ?_⟩⟩
  rintro e w' ⟨v, rfl, hb, hv⟩
  exact ⟨Hp, hs, PH.le.refl _, fun _ _ => rfl, hi.grow hb, hv⟩
end Go.Sx
end
section
namespace Go.Sx
open Go
/-! bits of integers of 64 bits -/
theorem i64_and_mask (n : Int) (m : Nat) (hm : m ≤ 62) : bits .and .i64 n (2 ^ m - 1) = n % 2 ^ m := by
  have hle : 2 ^ m ≤ 2 ^ 62 := Nat.pow_le_pow_right (by omega) hm
  have hpos : 0 < 2 ^ m := Nat.pow_pos (by omega)
  have hmask : (BitVec.ofInt 64 (2 ^ m - 1)).toNat = 2 ^ m - 1 := by
    have e : ((2 : Int) ^ m - 1) = ((2 ^ m - 1 : Nat) : Int) := by
      rw [Int.natCast_sub (by omega)]; simp
    rw [e, BitVec.ofInt_natCast, BitVec.toNat_ofNat]
    exact Nat.mod_eq_of_lt (by omega)
  have key : (BitVec.ofInt 64 n &&& BitVec.ofInt 64 (2 ^ m - 1)).toNat = (n % ((2 ^ 64 : Nat) : Int)).toNat % 2 ^ m := by
    rw [BitVec.toNat_and, BitVec.toNat_ofInt, hmask, Nat.and_two_pow_sub_one_eq_mod]
  show IntKind.i64.wrap ((BitVec.ofInt 64 n &&& BitVec.ofInt 64 (2 ^ m - 1)).toNat : Nat) = n % 2 ^ m
  rw [key, IntKind.wrap_i64]
  have h1 : (n % ((2 ^ 64 : Nat) : Int)).toNat % 2 ^ m < 2 ^ m := Nat.mod_lt _ hpos
  have h2 : (((n % ((2 ^ 64 : Nat) : Int)).toNat % 2 ^ m : Nat) : Int) = n % 2 ^ m := by
    rw [Int.natCast_emod, Int.toNat_of_nonneg (Int.emod_nonneg _ (by decide))]
    rw [show ((2 ^ m : Nat) : Int) = 2 ^ m by simp]
    apply Int.emod_emod_of_dvd
    have : ((2 ^ 64 : Nat) : Int) = 2 ^ m * 2 ^ (64 - m) := by
      rw [← Int.pow_add, show m + (64 - m) = 64 by omega]; rfl
    rw [this]
    exact Int.dvd_mul_right _ _
  rw [← h2]
  omega
theorem ofInt_i64 (a : Nat) (ha : a < 2 ^ 64) : (BitVec.ofInt 64 (a : Int)).toNat = a := by
  rw [BitVec.ofInt_natCast, BitVec.toNat_ofNat]; exact Nat.mod_eq_of_lt ha
theorem i64_or_nat (a b : Nat) (ha : a < 2 ^ 63) (hb : b < 2 ^ 63) : bits .or .i64 (a : Int) (b : Int) = ((a ||| b : Nat) : Int) := by
  have hx : a ||| b < 2 ^ 63 := Nat.or_lt_two_pow ha hb
  show IntKind.i64.wrap ((BitVec.ofInt 64 (a : Int) ||| BitVec.ofInt 64 (b : Int)).toNat : Int) = _
  rw [BitVec.toNat_or, ofInt_i64 a (by omega), ofInt_i64 b (by omega), IntKind.wrap_i64]
  omega
theorem i64_and_nat (a b : Nat) (ha : a < 2 ^ 63) (hb : b < 2 ^ 63) : bits .and .i64 (a : Int) (b : Int) = ((a &&& b : Nat) : Int) := by
  have hx : a &&& b < 2 ^ 63 := Nat.and_lt_two_pow _ hb
  show IntKind.i64.wrap ((BitVec.ofInt 64 (a : Int) &&& BitVec.ofInt 64 (b : Int)).toNat : Int) = _
  rw [BitVec.toNat_and, ofInt_i64 a (by omega), ofInt_i64 b (by omega), IntKind.wrap_i64]
  omega
/-- high bits and low bits -/
theorem i64_or_add (x y : Int) (m : Nat) (hx : 0 ≤ x) (hy : 0 ≤ y) (hym : y < 2 ^ m) (hm : m ≤ 62) (hb : x * 2 ^ m + y < 2 ^ 62) : bits .or .i64 (x * 2 ^ m) y = x * 2 ^ m + y := by
  obtain ⟨a, rfl⟩ := Int.eq_ofNat_of_zero_le hx
  obtain ⟨b, rfl⟩ := Int.eq_ofNat_of_zero_le hy
  have e1 : ((a : Int) * 2 ^ m) = ((a * 2 ^ m : Nat) : Int) := by simp
  have e2 : b < 2 ^ m := by
    have : ((b : Nat) : Int) < ((2 ^ m : Nat) : Int) := by simpa using hym
    exact Int.ofNat_lt.1 this
  rw [e1] at hb ⊢
  have h62 : ((2 : Int) ^ 62) = ((2 ^ 62 : Nat) : Int) := by simp
  rw [i64_or_nat _ _ (by omega) (by omega)]
  have := Nat.shiftLeft_add_eq_or_of_lt e2 a
  rw [Nat.shiftLeft_eq] at this
  rw [← this]; simp
end Go.Sx
end
section
namespace Go.Sx
open Go Go.RowKit
variable {P : Program}
/-! from a contract to a call at the row's start -/
def heapPH (W : World) : PH := fun b => W.heap[b]?
theorem tabs_keep {g3 g4 : Nat} {W w' : World} (h : Lib.Utf8Tabs g3 g4 W) (hk : ∀ b o, heapPH W b = some o → w'.heap[b]? = some o) : Lib.Utf8Tabs g3 g4 w' := by
  have key : ∀ (a : Addr) v, W.cell? a = some v → w'.cell? a = some v := by
    intro a v hv
    unfold World.cell? at hv ⊢
    cases ho : W.heap[a.block]? with
    | none => rw [ho] at hv; cases hv
    | some o =>
      rw [ho] at hv
      rw [hk a.block o ho]; exact hv
  exact ⟨fun c hc => key _ _ (h.1 c hc), fun i hi => ⟨key _ _ (h.2 i hi).1, key _ _ (h.2 i hi).2⟩⟩
/-- a base, of the row's start -/
def baseOf (W : World) (hT : ∀ g3 g4, P.globalNamed "unicode/utf8.first" = some g3 → P.globalNamed "unicode/utf8.acceptRanges" = some g4 → Lib.Utf8Tabs g3 g4 W) : Base P :=
  ⟨W, heapPH W, fun g3 g4 h1 h2 w' hk => tabs_keep (hT g3 g4 h1 h2) hk⟩
theorem start_inv (W : World) (hT : ∀ g3 g4, P.globalNamed "unicode/utf8.first" = some g3 → P.globalNamed "unicode/utf8.acceptRanges" = some g4 → Lib.Utf8Tabs g3 g4 W) :
    InvS (baseOf W hT) (heapPH W) (fun _ => none) [] [] W :=
  ⟨fun b o h => (by cases h), fun b o h => h, fun b => .inl rfl, rfl, fun v h => by simp at h, fun n b v h => by simp at h, fun n b v a h => by simp at h, fun n m a b c d e h => by simp at h, rfl, rfl, rfl, PH.le.refl _⟩
theorem below_of_inv {W w' : World} {hT : ∀ g3 g4, P.globalNamed "unicode/utf8.first" = some g3 → P.globalNamed "unicode/utf8.acceptRanges" = some g4 → Lib.Utf8Tabs g3 g4 W} {Hp : PH} {hs : List Value} {M : List Blk}
    (h : InvS (baseOf W hT) (heapPH W) Hp hs M w') : Below W.heap.size W w' := by
  have hblk : ∀ k, k < W.heap.size → w'.heap[k]? = W.heap[k]? := by
    intro k hk
    have e : heapPH W k = some W.heap[k] := Array.getElem?_eq_getElem hk
    rw [h.fr k _ e]; exact e.symm
  refine ⟨h.os, h.tape, h.output, ?_, hblk⟩
  apply Nat.le_of_not_lt
  intro hc
  have := hblk w'.heap.size hc
  rw [Array.getElem?_eq_none (Nat.le_refl _), Array.getElem?_eq_getElem hc] at this
  cases this
/-- a law that tells true, at the row's start -/
theorem law_calls {f : FuncId} {c : Con} (hc : ConOk P f c) (W : World) (hT : ∀ g3 g4, P.globalNamed "unicode/utf8.first" = some g3 → P.globalNamed "unicode/utf8.acceptRanges" = some g4 → Lib.Utf8Tabs g3 g4 W)
    {ags : List AV} {vs : List Value} (hr : Reps (heapPH W) (fun _ => none) [] ags vs) (hev : ∀ K : AV → List Blk → Prop, K (.b true) [] → c.ev ags [] K) :
    Calls P f vs.toArray W fun e w' => e = .returned (.bool true) ∧ Below W.heap.size W w' := by
  obtain ⟨av, M', ⟨rfl, rfl⟩, hrun⟩ := hc ags [] (fun av M => av = .b true ∧ M = []) (hev _ ⟨rfl, rfl⟩)
  refine Calls.mono (hrun (baseOf W hT) (heapPH W) (fun _ => none) [] W vs (start_inv W hT) hr).2 fun e w' he => ?_
  cases e with
  | returned v =>
    obtain ⟨Hp', hs', _, _, hi, hv⟩ := he
    cases hv.inv_val
    exact ⟨rfl, below_of_inv hi⟩
  | panicked c => exact he.elim
  | outgrown => exact he.elim
/-- strings that came in -/
theorem strs_rep {W : World} {a : Addr} {len cap : Nat} {ss : List ByteArray} (hl : len ≤ cap) (hlen : len ≤ ss.length) (hcell : ∀ i, i < ss.length → W.cell? (a.add i) = some (.string (ss.getD i ByteArray.empty))) :
    Rep (heapPH W) (fun _ => none) [] (.lt .str (ss.take len)) (.slice (some a) len cap) := by
  have e : (ss.take len).length = len := by simp; omega
  have key : Rep (heapPH W) (fun _ => none) [] (.lt .str (ss.take len)) (.slice (some a) (ss.take len).length cap) := by
    refine .lt .str (ss.take len) (some a) cap (fun i => [.string (ss.getD i ByteArray.empty)]) (by rw [e]; exact hl) trivial (fun h => by cases h) ?_ ?_
    · intro i x hx
      have hi : i < len := by have := (List.getElem?_eq_some_iff.1 hx).1; omega
      rw [List.getElem?_take, if_pos hi] at hx
      have : ss.getD i ByteArray.empty = x := by simp [List.getD, hx]
      rw [this]
      exact .cons (.val _) .nil
    · intro i x j c hx hj
      have hi : i < len := by have := (List.getElem?_eq_some_iff.1 hx).1; omega
      have hj0 : j = 0 := by have := (List.getElem?_eq_some_iff.1 hj).1; simp at this; exact this
      subst hj0
      have hc : c = .string (ss.getD i ByteArray.empty) := by simpa using hj.symm
      subst hc
      refine ⟨a, rfl, .inr ?_⟩
      have h := hcell i (by omega)
      simp only [ksz, Nat.mul_one, Nat.add_zero]
      exact h
  rwa [e] at key
end Go.Sx
end
