/- A symbolic evaluator of functions, proved sound against the model. Conditions: none beyond those of the given statement. -/
import Derived.Test.YtcdpapgkgiifjaaDoorSx2
set_option linter.unusedVariables false
set_option linter.unusedSimpArgs false
section
namespace Go.Sx
open Go
variable {P : Program}

/-! a frame, and operations one behind the other -/
structure StI (n k : Nat) (w0 : Base P) (F Hp : PH) (hs : List Value) (fr : Fr) (M : List Blk) (w : World) (a : Act) : Prop where
  inv : InvS w0 F Hp hs M w
  dfr : a.defers = []
  sz : a.tmps.size = n
  tm : ∀ t, Rep F Hp hs (fr.get t) (a.tmps.getD t undef)
  kl : k ≤ hs.length
def Fr.put : Fr → Nat → AV → Fr
  | [], t, v => [(t, v)]
  | (s, u) :: r, t, v => match Nat.beq s t with
    | true => (s, v) :: r
    | false => (s, u) :: Fr.put r t v
theorem Fr.get_put : ∀ (fr : Fr) (t : Nat) (v : AV) (s : Nat), (fr.put t v).get s = if t = s then v else fr.get s
  | [], t, v, s => by
    simp only [Fr.put, Fr.get]
    split
    · rename_i h; rw [if_pos (beq_nat h)]
    · rename_i h; rw [if_neg (fun e => by subst e; simp at h)]
  | (q, u) :: r, t, v, s => by
    simp only [Fr.put]
    split
    · rename_i h
      have h := beq_nat h
      subst h
      simp only [Fr.get]
      split
      · rename_i h'; rw [if_pos (beq_nat h')]
      · rename_i h'; rw [if_neg (fun e => by subst e; simp at h')]
    · rename_i h
      simp only [Fr.get]
      split
      · rename_i h'
        have h' := beq_nat h'
        subst h'
        rw [if_neg (fun e => by subst e; simp at h)]
      · exact Fr.get_put r t v s
section
variable {n k : Nat} {w0 : Base P} {w : World} {F Hp : PH} {hs : List Value} {fr : Fr} {M : List Blk} {a : Act}
theorem evO_rep (h : ∀ t, Rep F Hp hs (fr.get t) (a.tmps.getD t undef)) (x : Operand) : Rep F Hp hs (evO fr x) (a.eval x) := by
  unfold evO
  split
  · exact h _
  · split
    · exact .tt
    · exact .ff
  · exact .val _
  · exact .val _
  · exact .val _
theorem getD_put {d t : Nat} {v : Value} (hd : d < a.tmps.size) : (a.put (some d) v).tmps.getD t undef = if d = t then v else a.tmps.getD t undef := by
  simp only [Act.put]
  by_cases h : d = t
  · subst h; rw [if_pos rfl]
    simp [Array.getD, hd]
  · rw [if_neg h]
    rw [Array.getD_eq_getD_getElem?, Array.getD_eq_getD_getElem?, Array.getElem?_setIfInBounds_ne h]
theorem StI.put (h : StI n k w0 F Hp hs fr M w a) {d : Nat} (hd : d < n) {av : AV} {v : Value} (hv : Rep F Hp hs av v) : StI n k w0 F Hp hs (fr.put d av) M w (a.put (some d) v) where
  inv := h.inv
  dfr := h.dfr
  sz := by simp [Act.put, h.sz]
  tm t := by
    rw [Fr.get_put, getD_put (by rw [h.sz]; exact hd)]
    split
    · exact hv
    · exact h.tm t
  kl := h.kl
/-- a slot is known better -/
theorem StI.know (h : StI n k w0 F Hp hs fr M w a) {d : Nat} {av : AV} (hv : Rep F Hp hs av (a.tmps.getD d undef)) : StI n k w0 F Hp hs (fr.put d av) M w a where
  inv := h.inv
  dfr := h.dfr
  sz := h.sz
  tm t := by
    rw [Fr.get_put]
    split
    · rename_i e; subst e; exact hv
    · exact h.tm t
  kl := h.kl
theorem StI.next (h : StI n k w0 F Hp hs fr M w a) {Hp' : PH} {ex : List Value} {M' : List Blk} {w' : World} (hle : Hp.le Hp') (hi : InvS w0 F Hp' (hs ++ ex) M' w') : StI n k w0 F Hp' (hs ++ ex) fr M' w' a where
  inv := hi
  dfr := h.dfr
  sz := h.sz
  tm t := Rep.mono (PH.le.refl _) hle (HL.append _ _) (h.tm t)
  kl := by have := h.kl; simp; omega
end

/-! freezing -/
def frzL (n : Nat) (k : Kd) (xs : List (El k)) : AV → AV
  | .own m => match Nat.beq m n with
    | true => .sl k xs
    | false => .own m
  | .agg _ => .top
  | .tup _ => .top
  | x => x
def frz1 (n : Nat) (k : Kd) (xs : List (El k)) : AV → AV
  | .agg cs => .agg (cs.map (frzL n k xs))
  | x => frzL n k xs x
def frz2 (n : Nat) (k : Kd) (xs : List (El k)) : AV → AV
  | .tup cs => .tup (cs.map (frz1 n k xs))
  | x => frz1 n k xs x
def frzB (n : Nat) (k : Kd) (xs : List (El k)) : Blk → Blk
  | .flat cs => .flat (cs.map (frzL n k xs))
  | x => x
def frzF (n : Nat) (k : Kd) (xs : List (El k)) (fr : Fr) : Fr := fr.map fun p => (p.1, frz2 n k xs p.2)
section
variable {n k : Nat} {w0 : Base P} {w : World} {F Hp : PH} {hs : List Value} {fr : Fr} {M : List Blk} {a : Act}
theorem frz_rep {F Hp Hp' : PH} {hs : List Value} {m : Nat} {kd : Kd} {xs : List (El kd)} (hle : Hp.le Hp') (hm : ∀ v, hs[m]? = some v → Rep F Hp' hs (.sl kd xs) v) :
    (∀ {x : AV} {v : Value}, Rep F Hp hs x v → Rep F Hp' hs (frzL m kd xs x) v) ∧ (∀ {x : AV} {v : Value}, Rep F Hp hs x v → Rep F Hp' hs (frz2 m kd xs x) v) := by
  have h0 : ∀ {x : AV} {v : Value}, Rep F Hp hs x v → Rep F Hp' hs (frzL m kd xs x) v := by
    intro x v h
    have hmono := Rep.mono (PH.le.refl _) hle (HL.refl _) h
    unfold frzL
    split
    · split
      · rename_i e
        have e := beq_nat e
        subst e
        cases h with | own _ _ hn => exact hm v hn
      · exact hmono
    · exact .top _
    · exact .top _
    · exact hmono
  have hl : ∀ {l : List AV} {vs : List Value} {f : AV → AV}, (∀ {x : AV} {v : Value}, Rep F Hp hs x v → Rep F Hp' hs (f x) v) → Reps F Hp hs l vs → Reps F Hp' hs (l.map f) vs := by
    intro l vs f hf h
    refine Reps.of_get (by rw [List.length_map]; exact h.length) fun i x u h1 h2 => ?_
    obtain ⟨x', e1, e2⟩ := h.getv i u h2
    rw [List.getElem?_map, e1] at h1; cases h1
    exact hf e2
  have h1 : ∀ {x : AV} {v : Value}, Rep F Hp hs x v → Rep F Hp' hs (frz1 m kd xs x) v := by
    intro x v h
    unfold frz1
    split
    · obtain ⟨vs, rfl, g⟩ := h.inv_agg
      exact .agg _ _ (hl h0 g)
    · exact h0 h
  refine ⟨h0, fun {x v} h => ?_⟩
  unfold frz2
  split
  · obtain ⟨vs, rfl, g⟩ := h.inv_tup
    exact .tup _ _ (hl h1 g)
  · exact h1 h
theorem InvS.freeze (hi : InvS w0 F Hp hs M w) {m : Nat} {kd : Kd} {xs : List (El kd)} (hm : M[m]? = some (.arr kd xs)) :
    ∃ Hp', Hp.le Hp' ∧ InvS w0 F Hp' hs ((M.map (frzB m kd xs)).set m .dead) w ∧ ∀ {x : AV} {v : Value}, Rep F Hp hs x v → Rep F Hp' hs (frz2 m kd xs x) v := by
  have hlt : m < M.length := (List.getElem?_eq_some_iff.1 hm).1
  obtain ⟨h0, hh0⟩ : ∃ v, hs[m]? = some v := ⟨_, List.getElem?_eq_getElem (by rw [hi.len]; exact hlt)⟩
  obtain ⟨A, cap, hv, h1, h2, h3, h4⟩ := hi.blk m _ h0 hm hh0
  subst hv
  -- the frozen memory
  obtain ⟨Hp', hle, hput, hsl⟩ : ∃ Hp' : PH, Hp.le Hp' ∧ (∀ b o, Hp' b = some o → Hp b = some o ∨ (idOf (.slice A xs.length cap) = some b ∧ w.heap[b]? = some o)) ∧ Rep F Hp' hs (.sl kd xs) (.slice A xs.length cap) := by
    cases A with
    | none =>
      have h0 := h3 rfl
      have hx0 : xs = [] := List.length_eq_zero_iff.1 (by omega)
      subst hx0
      refine ⟨Hp, PH.le.refl _, fun b o h => .inl h, ?_⟩
      have : cap = 0 := h0
      subst this
      exact Rep.nil_sl _
    | some a =>
      obtain ⟨b, T, c, rfl, g1, g2, g3⟩ := h4 a rfl
      have hnone := (hi.own m _ _ b hm rfl hh0 rfl).1
      refine ⟨Hp.put b (.cells c.toArray T (0, 0)), PH.put_le hnone, fun b' o h => ?_, ?_⟩
      · unfold PH.put at h
        split at h
        · rename_i e; subst e; cases h; exact .inr ⟨rfl, g1⟩
        · exact .inl h
      · exact sl_of h1 h2 (PH.put_at _ _ _) (fun i x hx => Reps.mono (PH.le.refl _) (PH.put_le hnone) (HL.refl _) (g3 i x hx))
  have hrep := frz_rep (F := F) (m := m) (kd := kd) (xs := xs) hle (fun v hv => by rw [hh0] at hv; cases hv; exact hsl)
  have key : ∀ (q : Nat) blk, ((M.map (frzB m kd xs)).set m .dead)[q]? = some blk → blk = .dead ∨ (q ≠ m ∧ ∃ b, M[q]? = some b ∧ blk = frzB m kd xs b) := by
    intro q blk hq
    by_cases e : q = m
    · subst e
      rw [List.getElem?_set_self (by simpa using hlt)] at hq; cases hq; exact .inl rfl
    · rw [List.getElem?_set_ne (fun x => e x.symm), List.getElem?_map] at hq
      obtain ⟨b, e1, e2⟩ := Option.map_eq_some_iff.1 hq
      exact .inr ⟨e, b, e1, e2.symm⟩
  have hlive : ∀ b : Blk, (frzB m kd xs b).live = b.live := by intro b; cases b <;> rfl
  refine ⟨Hp', hle, ⟨?_, hi.fr, ?_, ?_, hi.one, ?_, ?_, ?_, hi.os, hi.tape, hi.output, fun b o h => (hi.gl b o h).imp id (hle b o)⟩, hrep.2⟩
  · intro b o hb
    rcases hput b o hb with h | ⟨_, h⟩
    · exact hi.perm b o h
    · exact h
  · intro b
    cases hx : Hp' b with
    | none => exact .inl rfl
    | some o =>
      rcases hput b o hx with h | ⟨h, _⟩
      · rcases hi.pf b with g | g
        · rw [g] at h; cases h
        · exact .inr g
      · exact .inr (hi.own m _ _ b hm rfl hh0 h).2
  · simp [hi.len]
  · intro q blk v hq hv
    rcases key q blk hq with rfl | ⟨hne, b, hb, rfl⟩
    · trivial
    · have hbl := hi.blk q b v hb hv
      cases b with
      | flat cs =>
        obtain ⟨b', T, vs, e, g1, g2⟩ := hbl
        refine ⟨b', T, vs, e, g1, ?_⟩
        refine Reps.of_get (by rw [List.length_map]; exact g2.length) fun i x u h1 h2 => ?_
        obtain ⟨x', e1, e2⟩ := g2.getv i u h2
        rw [List.getElem?_map, e1] at h1; cases h1
        exact hrep.1 e2
      | _ => exact hbl.mono (PH.le.refl _) hle (HL.refl _) fun _ _ => rfl
  · intro q blk v b hq hl hv hid
    rcases key q blk hq with rfl | ⟨hne, bl, hb, rfl⟩
    · simp [Blk.live] at hl
    · rw [hlive] at hl
      obtain ⟨g1, g2⟩ := hi.own q bl v b hb hl hv hid
      refine ⟨?_, g2⟩
      cases hx : Hp' b with
      | none => rfl
      | some o =>
        rcases hput b o hx with h | ⟨h, _⟩
        · rw [g1] at h; cases h
        · exact absurd (hi.inj q m _ _ v _ b hb hm hl rfl hv hh0 hid h) hne
  · intro q q' bn bm vn vm b h1 h2 l1 l2 g1 g2 i1 i2
    have r1 := key q bn h1
    have r2 := key q' bm h2
    clear h1 h2
    rcases r1 with rfl | ⟨hne, bl, hb, rfl⟩
    · simp [Blk.live] at l1
    rcases r2 with rfl | ⟨hne', bl', hb', rfl⟩
    · simp [Blk.live] at l2
    rw [hlive] at l1 l2
    exact hi.inj q q' bl bl' vn vm b hb hb' l1 l2 g1 g2 i1 i2
theorem frzF_get {m : Nat} {kd : Kd} {xs : List (El kd)} : ∀ (fr : Fr) (t : Nat), (frzF m kd xs fr).get t = frz2 m kd xs (fr.get t)
  | [], t => rfl
  | (s, u) :: r, t => by
    have ih := frzF_get (m := m) (xs := xs) r t
    unfold frzF at *
    simp only [List.map_cons, Fr.get]
    split
    · rfl
    · exact ih
theorem StI.freeze (h : StI n k w0 F Hp hs fr M w a) {m : Nat} {kd : Kd} {xs : List (El kd)} (hm : M[m]? = some (.arr kd xs)) :
    ∃ Hp', Hp.le Hp' ∧ StI n k w0 F Hp' hs (frzF m kd xs fr) ((M.map (frzB m kd xs)).set m .dead) w a := by
  obtain ⟨Hp', h1, h2, h3⟩ := h.inv.freeze hm
  exact ⟨Hp', h1, h2, h.dfr, h.sz, fun t => by rw [frzF_get]; exact h3 (h.tm t), h.kl⟩
end

/-! one operation behind the other -/
/-- what a value owns -/
def own1 : AV → List Nat
  | .own m => [m]
  | .agg cs => cs.flatMap fun
    | .own m => [m]
    | _ => []
  | _ => []
def own2 : AV → List Nat
  | .tup cs => cs.flatMap own1
  | x => own1 x
def frzAll : List Nat → Fr → List Blk → (Fr → List Blk → Prop) → Prop
  | [], fr, M, J => J fr M
  | m :: r, fr, M, J => match M[m]? with
    | some (.arr k xs) => frzAll r (frzF m k xs fr) ((M.map (frzB m k xs)).set m .dead) J
    | _ => frzAll r fr M J
def evPut (n : Nat) (fz : List Nat) (dst : Option Nat) (av : AV) (fr : Fr) (M : List Blk) (J : Fr → List Blk → Prop) : Prop :=
  match dst with
  | none => J fr M
  | some d => match Nat.ble (d + 1) n, hasN fz d with
    | true, false => J (fr.put d av) M
    | true, true => frzAll (own2 av) (fr.put d av) M J
    | false, _ => False
def evB (av : AV) (t : Nat) (fr : Fr) (M : List Blk) (yes no : Fr → List Blk → Prop) : Prop :=
  match av with
  | .tt => yes fr M
  | .ff => no fr M
  | .val (.bool c) => (c = true → yes (fr.put t .tt) M) ∧ (c = false → no (fr.put t .ff) M)
  | .val (.tuple _) => no fr M
  | _ => False
def evGd (all : List Oper) (o : Oper) (fr : Fr) (M : List Blk) (yes no : Fr → List Blk → Prop) : Prop :=
  match o.guard with
  | none => yes fr M
  | some (g, want) => match (all[g]?).bind (·.dst) with
    | some t => match want with
      | true => evB (fr.get t) t fr M yes no
      | false => match fr.get t with
        | .val (.tuple _) => no fr M
        | av => evB av t fr M no yes
    | none => False
def evOps (E : Env) (n : Nat) (fz : List Nat) (all : List Oper) : List Oper → Fr → List Blk → (Fr → List Blk → Prop) → Prop
  | [], fr, M, K => K fr M
  | o :: r, fr, M, K => evGd all o fr M
      (fun fr M => evW E o.op (evO fr) M fun av M' => evPut n fz o.dst av fr M' fun fr' M'' => evOps E n fz all r fr' M'' K)
      (fun fr M => evPut n [] o.dst (.val undef) fr M fun fr' M' => evOps E n fz all r fr' M' K)

/-- from a state on, a way leads to a state -/
def Goes (P : Program) (n k : Nat) (W : (Act → World → Prop) → Act → World → Prop) (fr : Fr) (M : List Blk) (fr' : Fr) (M' : List Blk) : Prop :=
  ∀ (w0 : Base P) F Hp hs w a (K : Act → World → Prop), StI n k w0 F Hp hs fr M w a →
    (∀ Hp' hs' w' a', Hp.le Hp' → (∀ i : Nat, i < k → hs'[i]? = hs[i]?) → StI n k w0 F Hp' hs' fr' M' w' a' → K a' w') → W K a w
theorem pin_append {k : Nat} {hs ex : List Value} (h : k ≤ hs.length) : ∀ i : Nat, i < k → (hs ++ ex)[i]? = hs[i]? := fun i hi => List.getElem?_append_left (by omega)

theorem frzAll_ok {n k : Nat} : ∀ (l : List Nat) {fr : Fr} {M : List Blk} {J : Fr → List Blk → Prop}, frzAll l fr M J →
    ∃ fr' M', J fr' M' ∧ ∀ (w0 : Base P) F Hp hs w a, StI n k w0 F Hp hs fr M w a → ∃ Hp', Hp.le Hp' ∧ StI n k w0 F Hp' hs fr' M' w a
  | [], fr, M, J, h => ⟨fr, M, h, fun w0 F Hp hs w a hst => ⟨Hp, PH.le.refl _, hst⟩⟩
  | m :: r, fr, M, J, h => by
    unfold frzAll at h
    split at h
    · rename_i k' xs hm
      obtain ⟨fr', M', hJ, hgo⟩ := frzAll_ok r h
      refine ⟨fr', M', hJ, fun w0 F Hp hs w a hst => ?_⟩
      obtain ⟨Hp', hle, hst'⟩ := hst.freeze hm
      obtain ⟨Hp'', hle2, hst''⟩ := hgo w0 F Hp' hs w a hst'
      exact ⟨Hp'', hle.trans hle2, hst''⟩
    · exact frzAll_ok r h
theorem evPut_ok {n k : Nat} {fz : List Nat} {dst : Option Nat} {av : AV} {fr : Fr} {M : List Blk} {J : Fr → List Blk → Prop} (h : evPut n fz dst av fr M J) :
    ∃ fr' M', J fr' M' ∧ ∀ (w0 : Base P) F Hp hs w a v, StI n k w0 F Hp hs fr M w a → Rep F Hp hs av v → ∃ Hp', Hp.le Hp' ∧ StI n k w0 F Hp' hs fr' M' w (a.put dst v) := by
  unfold evPut at h
  split at h
  · exact ⟨_, _, h, fun w0 F Hp hs w a v hs' hv => ⟨Hp, PH.le.refl _, hs'⟩⟩
  · split at h
    · rename_i hd _
      exact ⟨_, _, h, fun w0 F Hp hs w a v hs' hv => ⟨Hp, PH.le.refl _, hs'.put (Nat.le_of_ble_eq_true hd) hv⟩⟩
    · rename_i hd _
      obtain ⟨fr', M', hJ, hgo⟩ := frzAll_ok (P := P) (n := n) (k := k) _ h
      exact ⟨fr', M', hJ, fun w0 F Hp hs w a v hs' hv => hgo w0 F Hp hs w _ (hs'.put (Nat.le_of_ble_eq_true hd) hv)⟩
    · exact h.elim
theorem undef_ne_bool (b : Bool) : undef ≠ Value.bool b := by simp [undef]
theorem yielded_of {ops : Array Oper} {a : Act} {g t : Nat} {b : Bool} (hg : (ops.toList[g]?).bind (·.dst) = some t) (hv : a.tmps.getD t undef = .bool b) : yielded ops a.tmps g = some b := by
  rw [Array.getElem?_toList] at hg
  unfold yielded
  rw [hg]
  have : a.tmps[t]? = some (.bool b) := by
    unfold Array.getD at hv
    split at hv
    · rename_i ht; rw [Array.getElem?_eq_getElem ht]; exact congrArg some hv
    · exact absurd hv (undef_ne_bool b)
  simp [this]
theorem yielded_of_tup {ops : Array Oper} {a : Act} {g t : Nat} {u : Array Value} (hg : (ops.toList[g]?).bind (·.dst) = some t) (hv : a.tmps.getD t undef = .tuple u) : yielded ops a.tmps g = none := by
  rw [Array.getElem?_toList] at hg
  unfold yielded
  rw [hg]
  cases h : a.tmps[t]? with
  | none => simp [h]
  | some x =>
    have : x = .tuple u := by
      rw [Array.getD_eq_getD_getElem?, h] at hv; exact hv
    subst this
    simp [h]
/-- which way a guard leads -/
theorem evGd_ok {n k : Nat} {ops : Array Oper} {o : Oper} {fr : Fr} {M : List Blk} {yes no : Fr → List Blk → Prop} (h : evGd ops.toList o fr M yes no) :
    ∃ fr', ((yes fr' M ∧ ∀ (w0 : Base P) F Hp hs w a, StI n k w0 F Hp hs fr M w a → StI n k w0 F Hp hs fr' M w a ∧ Region.wanted o (yielded ops a.tmps) = true) ∨
            (no fr' M ∧ ∀ (w0 : Base P) F Hp hs w a, StI n k w0 F Hp hs fr M w a → StI n k w0 F Hp hs fr' M w a ∧ Region.wanted o (yielded ops a.tmps) = false)) := by
  unfold evGd at h
  split at h
  · rename_i hg
    exact ⟨fr, .inl ⟨h, fun w0 F Hp hs w a hst => ⟨hst, by simp [Region.wanted, hg]⟩⟩⟩
  · rename_i g want hg
    split at h
    · rename_i t ht
      have hwant : ∀ (a : Act) (c : Bool), a.tmps.getD t undef = .bool c → Region.wanted o (yielded ops a.tmps) = (c == want) := by
        intro a c hc
        simp only [Region.wanted, hg, yielded_of ht hc]
        cases c <;> cases want <;> rfl
      have hnone : ∀ (a : Act) (u : Array Value), a.tmps.getD t undef = .tuple u → Region.wanted o (yielded ops a.tmps) = false := by
        intro a u hc
        simp only [Region.wanted, hg, yielded_of_tup ht hc]
        cases want <;> rfl
      have hB : ∀ {Y N : Fr → List Blk → Prop}, evB (fr.get t) t fr M Y N → ∃ fr', (∃ c : Bool, (if c = true then Y fr' M else N fr' M) ∧ ∀ (w0 : Base P) F Hp hs w a, StI n k w0 F Hp hs fr M w a → StI n k w0 F Hp hs fr' M w a ∧ a.tmps.getD t undef = .bool c) ∨ (N fr' M ∧ (∃ u, fr.get t = .val (.tuple u)) ∧ ∀ (w0 : Base P) F Hp hs w a, StI n k w0 F Hp hs fr M w a → StI n k w0 F Hp hs fr' M w a ∧ ∃ u, a.tmps.getD t undef = .tuple u) := by
        intro Y N hb
        unfold evB at hb
        split at hb
        · rename_i e
          exact ⟨fr, .inl ⟨true, by simpa using hb, fun w0 F Hp hs w a hst => ⟨hst, by have := hst.tm t; rw [e] at this; exact this.inv_tt⟩⟩⟩
        · rename_i e
          exact ⟨fr, .inl ⟨false, by simpa using hb, fun w0 F Hp hs w a hst => ⟨hst, by have := hst.tm t; rw [e] at this; exact this.inv_ff⟩⟩⟩
        · rename_i c e
          have hval : ∀ (w0 : Base P) F Hp hs w a, StI n k w0 F Hp hs fr M w a → a.tmps.getD t undef = .bool c := fun w0 F Hp hs w a hst => by
            have := hst.tm t; rw [e] at this; exact this.inv_val
          cases c with
          | true =>
            refine ⟨fr.put t .tt, .inl ⟨true, by simpa using hb.1 rfl, fun w0 F Hp hs w a hst => ⟨hst.know ?_, hval w0 F Hp hs w a hst⟩⟩⟩
            rw [hval w0 F Hp hs w a hst]; exact .tt
          | false =>
            refine ⟨fr.put t .ff, .inl ⟨false, by simpa using hb.2 rfl, fun w0 F Hp hs w a hst => ⟨hst.know ?_, hval w0 F Hp hs w a hst⟩⟩⟩
            rw [hval w0 F Hp hs w a hst]; exact .ff
        · rename_i u e
          exact ⟨fr, .inr ⟨hb, ⟨u, e⟩, fun w0 F Hp hs w a hst => ⟨hst, u, by have := hst.tm t; rw [e] at this; exact this.inv_val⟩⟩⟩
        · exact hb.elim
      split at h
      · obtain ⟨fr', ⟨c, h1, h2⟩ | ⟨h1, ⟨u0, hu0⟩, h2⟩⟩ := hB h
        · refine ⟨fr', ?_⟩
          cases c with
          | true => exact .inl ⟨by simpa using h1, fun w0 F Hp hs w a hst => ⟨(h2 w0 F Hp hs w a hst).1, by rw [hwant a _ (h2 w0 F Hp hs w a hst).2]; rfl⟩⟩
          | false => exact .inr ⟨by simpa using h1, fun w0 F Hp hs w a hst => ⟨(h2 w0 F Hp hs w a hst).1, by rw [hwant a _ (h2 w0 F Hp hs w a hst).2]; rfl⟩⟩
        · exact ⟨fr', .inr ⟨h1, fun w0 F Hp hs w a hst => ⟨(h2 w0 F Hp hs w a hst).1, by obtain ⟨u, hu⟩ := (h2 w0 F Hp hs w a hst).2; exact hnone a u hu⟩⟩⟩
      · split at h
        · rename_i u e
          exact ⟨fr, .inr ⟨h, fun w0 F Hp hs w a hst => ⟨hst, hnone a u (by have := hst.tm t; rw [e] at this; exact this.inv_val)⟩⟩⟩
        · rename_i hne
          obtain ⟨fr', ⟨c, h1, h2⟩ | ⟨h1, ⟨u0, hu0⟩, h2⟩⟩ := hB h
          · refine ⟨fr', ?_⟩
            cases c with
            | true => exact .inr ⟨by simpa using h1, fun w0 F Hp hs w a hst => ⟨(h2 w0 F Hp hs w a hst).1, by rw [hwant a _ (h2 w0 F Hp hs w a hst).2]; rfl⟩⟩
            | false => exact .inl ⟨by simpa using h1, fun w0 F Hp hs w a hst => ⟨(h2 w0 F Hp hs w a hst).1, by rw [hwant a _ (h2 w0 F Hp hs w a hst).2]; rfl⟩⟩
          · exact absurd hu0 (hne u0)
    · exact h.elim
end Go.Sx
end
section
namespace Go.Sx
open Go
variable {P : Program} {E : Env} {n k : Nat}

/-- operations of a region, in a row -/
def RunOps (P : Program) (ops : Array Oper) (is : List Nat) (K : Act → World → Prop) (a : Act) (w : World) : Prop :=
  ∀ Q : Exit → Act → World → Prop, (∀ a w, K a w → Q .normal a w) → wpOps P ops Q is a w
/-- a way through a region: what it doesn't write stays -/
def GoesO (P : Program) (n k : Nat) (W : List Nat) (R : (Act → World → Prop) → Act → World → Prop) (fr : Fr) (M : List Blk) (fr' : Fr) (M' : List Blk) : Prop :=
  ∀ (w0 : Base P) F Hp hs w a (K : Act → World → Prop), StI n k w0 F Hp hs fr M w a →
    (∀ Hp' hs' w' a', Hp.le Hp' → HL hs hs' → StI n k w0 F Hp' hs' fr' M' w' a' → (∀ t, t ∉ W → a'.tmps.getD t undef = a.tmps.getD t undef) → K a' w') → R K a w
theorem pin_of_HL {k : Nat} {hs hs' : List Value} (hk : k ≤ hs.length) (h : HL hs hs') : ∀ i : Nat, i < k → hs'[i]? = hs[i]? := by
  intro i hi
  have e : hs[i]? = some hs[i] := List.getElem?_eq_getElem (by omega)
  rw [e]; exact h i _ e
theorem GoesO.goes {W : List Nat} {R : (Act → World → Prop) → Act → World → Prop} {fr fr' : Fr} {M M' : List Blk} (h : GoesO P n k W R fr M fr' M') : Goes P n k R fr M fr' M' :=
  fun w0 F Hp hs w a K hst hk => h w0 F Hp hs w a K hst fun Hp' hs' w' a' hle hl hst' _ => hk Hp' hs' w' a' hle (pin_of_HL hst.kl hl) hst'
def dstsN : List Oper → List Nat
  | [] => []
  | o :: r => match o.dst with
    | some d => d :: dstsN r
    | none => dstsN r
theorem not_dsts {o : Oper} {r : List Oper} {t : Nat} (h : t ∉ dstsN (o :: r)) : o.dst ≠ some t ∧ t ∉ dstsN r := by
  cases hd : o.dst with
  | none => simp only [dstsN, hd] at h; exact ⟨by simp, h⟩
  | some d =>
    simp only [dstsN, hd, List.mem_cons, not_or] at h
    exact ⟨fun e => h.1 (Option.some.inj e).symm, h.2⟩
theorem put_other {a : Act} {dst : Option Tmp} {v : Value} {t : Nat} (h : dst ≠ some t) : (a.put dst v).tmps.getD t undef = a.tmps.getD t undef := by
  cases dst with
  | none => rfl
  | some d =>
    have hne : d ≠ t := fun e => h (by rw [e])
    simp only [Act.put]
    rw [Array.getD_eq_getD_getElem?, Array.getD_eq_getD_getElem?, Array.getElem?_setIfInBounds_ne hne]
theorem StI.step {w0 : Base P} {F Hp : PH} {hs : List Value} {fr : Fr} {M : List Blk} {w : World} {a : Act} (h : StI n k w0 F Hp hs fr M w a) {o : Oper} {av : AV} {M' M'' : List Blk} {fr'' : Fr} (hs1 : StepOk P o (evO fr) M av M')
    (hput : ∀ (w0 : Base P) F Hp hs w a v, StI n k w0 F Hp hs fr M' w a → Rep F Hp hs av v → ∃ Hp', Hp.le Hp' ∧ StI n k w0 F Hp' hs fr'' M'' w (a.put o.dst v)) {next : Act → World → Prop} {Q : Exit → Act → World → Prop}
    (hn : ∀ Hp' hs' w' v, Hp.le Hp' → HL hs hs' → StI n k w0 F Hp' hs' fr'' M'' w' (a.put o.dst v) → next (a.put o.dst v) w') : o.wp P a w next Q := by
  refine hs1 w0 F Hp hs w a next Q h.inv (evO_rep h.tm) fun Hp' ex w' v hle hi hv => ?_
  obtain ⟨Hp'', hle2, hst⟩ := hput w0 F Hp' (hs ++ ex) w' a v (h.next hle hi) hv
  exact hn Hp'' _ w' v (hle.trans hle2) (HL.append _ _) hst
theorem evOps_okO (hE : EnvOk P E) {fz : List Nat} {ops : Array Oper} : ∀ (r : List Oper) (i : Nat), ops.toList.drop i = r → ∀ {fr : Fr} {M : List Blk} {K : Fr → List Blk → Prop}, evOps E n fz ops.toList r fr M K →
    ∃ fr' M', K fr' M' ∧ GoesO P n k (dstsN r) (RunOps P ops (List.range' i r.length)) fr M fr' M'
  | [], i, hd, fr, M, K, h => ⟨fr, M, h, fun w0 F Hp hs w a K hst hk Q hq => by
      simp only [List.length_nil, List.range'_zero, wpOps]
      exact hq _ _ (hk Hp hs w a (PH.le.refl _) (HL.refl _) hst (fun _ _ => rfl))⟩
  | o :: r, i, hd, fr, M, K, h => by
    have hoi : ops[i]? = some o := by
      rw [← Array.getElem?_toList]
      have := congrArg (fun l => l[0]?) hd
      simpa using this
    have hd' : ops.toList.drop (i + 1) = r := by
      have := congrArg (List.drop 1) hd
      simpa [List.drop_drop, Nat.add_comm] using this
    simp only [evOps] at h
    obtain ⟨fr1, ⟨hy, hw⟩ | ⟨hy, hw⟩⟩ := evGd_ok (n := n) (k := k) h
    · obtain ⟨av, M1, h2, hstep⟩ := evW_ok hE hy
      obtain ⟨fr2, M2, h3, hput⟩ := evPut_ok (P := P) (n := n) (k := k) h2
      obtain ⟨fr3, M3, hK, hgo⟩ := evOps_okO hE r (i + 1) hd' h3
      refine ⟨fr3, M3, hK, fun w0 F Hp hs w a K hst hk Q hq => ?_⟩
      obtain ⟨hst1, hwant⟩ := hw w0 F Hp hs w a hst
      simp only [List.length_cons, List.range'_succ, wpOps, hoi, hwant, if_true]
      refine .inl (hst1.step hstep hput fun Hp' hs' w' v hle hl hst' => ?_)
      exact hgo w0 F Hp' hs' w' _ _ hst' (fun Hp'' hs'' w'' a'' hle' hl' hst'' hsame => hk Hp'' hs'' w'' a'' (hle.trans hle') (hl.trans hl') hst''
        (fun t ht => by obtain ⟨q1, q2⟩ := not_dsts ht; rw [hsame t q2, put_other q1])) Q hq
    · obtain ⟨fr2, M2, h3, hput⟩ := evPut_ok (P := P) (n := n) (k := k) hy
      obtain ⟨fr3, M3, hK, hgo⟩ := evOps_okO hE r (i + 1) hd' h3
      refine ⟨fr3, M3, hK, fun w0 F Hp hs w a K hst hk Q hq => ?_⟩
      obtain ⟨hst1, hwant⟩ := hw w0 F Hp hs w a hst
      simp only [List.length_cons, List.range'_succ, wpOps, hoi, hwant, Bool.false_eq_true, if_false]
      obtain ⟨Hp', hle, hst'⟩ := hput w0 F Hp hs w a undef hst1 (.val _)
      exact hgo w0 F Hp' hs w _ _ hst' (fun Hp'' hs'' w'' a'' hle' hl' hst'' hsame => hk Hp'' hs'' w'' a'' (hle.trans hle') hl' hst''
        (fun t ht => by obtain ⟨q1, q2⟩ := not_dsts ht; rw [hsame t q2, put_other q1])) Q hq
/-- a region whose operations stand in a row -/
theorem evReg_ok (hE : EnvOk P E) {fz : List Nat} {ops : Array Oper} {fr : Fr} {M : List Blk} {K : Fr → List Blk → Prop} (h : evOps E n fz ops.toList ops.toList fr M K) :
    ∃ fr' M', K fr' M' ∧ GoesO P n k (dstsN ops.toList) (RunOps P ops (List.range ops.size)) fr M fr' M' := by
  obtain ⟨fr', M', hK, hgo⟩ := evOps_okO (k := k) hE ops.toList 0 rfl h
  refine ⟨fr', M', hK, ?_⟩
  rw [List.range_eq_range']
  simpa using hgo
end Go.Sx
end
section
namespace Go.Sx
open Go
variable {P : Program} {E : Env} {n k : Nat}

/-! a region whose operations are drawn: first those that leave what is owned alone, in any order; the others behind them, one by one -/
def aftN (o : Oper) : List Nat := (o.after.toList.filter fun e => Region.binds .any e).map (·.on)
theorem aftN_mem {o : Oper} {q : Nat} : q ∈ aftN o ↔ ∃ e ∈ o.after, Region.binds .any e = true ∧ e.on = q := by
  simp [aftN, and_assoc]
def belowAll : Nat → List Oper → Bool
  | _, [] => true
  | i, o :: r => match below i (aftN o) with
    | true => belowAll (i + 1) r
    | false => false
def noSel : List Oper → Bool
  | [] => true
  | o :: r => match o.op with
    | .select _ _ => false
    | _ => noSel r
theorem belowAll_ok : ∀ {l : List Oper} {i : Nat}, belowAll i l = true → ∀ m o, l[m]? = some o → ∀ q ∈ aftN o, q < i + m
  | [], i, _, m, s, h => by simp at h
  | t :: r, i, h, m, s, hm => by
    simp only [belowAll] at h
    split at h
    · rename_i hh
      cases m with
      | zero => simp at hm; subst hm; exact fun q hq => by simpa using below_ok hh q hq
      | succ m =>
        intro q hq
        have := belowAll_ok h m s (by simpa using hm) q hq
        omega
    · cases h

theorem range_cut {h m : Nat} (hle : h ≤ m) : List.range m = List.range h ++ List.range' h (m - h) := by
  obtain ⟨d, rfl⟩ := Nat.exists_eq_add_of_le hle
  rw [List.range_add, Nat.add_sub_cancel_left, List.range'_eq_map_range]
section
variable {ops : Array Oper} {Q : Exit → Act → World → Prop}
def Lst (listed : Array Bool) (j : Nat) : Prop := listed.getD j false = true
theorem unl {listed : Array Bool} {j : Nat} (hs : j < listed.size) : listed.getD j true = false ↔ ¬ Lst listed j := by
  unfold Lst
  simp [Array.getD, hs]
theorem ready_iff {listed : Array Bool} (hsz : listed.size = ops.size) {j : Nat} : j ∈ Region.ready .any ops listed ↔ ¬ Lst listed j ∧ ∃ o, ops[j]? = some o ∧ ∀ q ∈ aftN o, Lst listed q := by
  rw [mem_ready]
  constructor
  · rintro ⟨h0, o, ho, h⟩
    have hj : j < listed.size := by rw [hsz]; exact (Array.getElem?_eq_some_iff.1 ho).1
    refine ⟨(unl hj).1 h0, o, ho, fun q hq => ?_⟩
    obtain ⟨e, he, hb, rfl⟩ := aftN_mem.1 hq
    exact h e he hb
  · rintro ⟨h0, o, ho, h⟩
    have hj : j < listed.size := by rw [hsz]; exact (Array.getElem?_eq_some_iff.1 ho).1
    exact ⟨(unl hj).2 h0, o, ho, fun e he hb => h _ (aftN_mem.2 ⟨e, he, hb, rfl⟩)⟩
theorem lst_set {listed : Array Bool} {i j : Nat} (hi : i < listed.size) : Lst (listed.setIfInBounds i true) j ↔ j = i ∨ Lst listed j := by
  unfold Lst
  by_cases h : i = j
  · subst h; simp [hi]
  · rw [getD_set_ne false h]
    constructor
    · exact .inr
    · rintro (e | h')
      · exact absurd e.symm h
      · exact h'
/-- from a place on: what comes before it is done, and nothing else -/
def WA (P : Program) (ops : Array Oper) (Q : Exit → Act → World → Prop) (p : Nat) (a : Act) (w : World) : Prop :=
  ∀ (fuel : Nat) (listed : Array Bool), listed.size = ops.size → (∀ j, Lst listed j ↔ j < p) → ops.size - p ≤ fuel → wpAny P .any ops Q fuel listed a w
/-- all from a place on comes behind all that is before it -/
def Parted (ops : Array Oper) (p : Nat) : Prop := ∀ i o, p ≤ i → ops[i]? = some o → ∀ L : Nat → Prop, (∀ j o, ops[j]? = some o → L j → ∀ q ∈ aftN o, L q) → (∀ q ∈ aftN o, L q) → ∀ q < p, L q
def Backw (ops : Array Oper) : Prop := ∀ i o, ops[i]? = some o → ∀ q ∈ aftN o, q < i
theorem WA.fin {a : Act} {w : World} (h : Q .normal a w) : WA P ops Q ops.size a w := by
  intro fuel listed hsz hl hf
  have hr : Region.ready .any ops listed = [] := by
    apply List.eq_nil_iff_forall_not_mem.2
    intro j hj
    obtain ⟨h1, o, ho, _⟩ := (ready_iff hsz).1 hj
    exact h1 ((hl j).2 (Array.getElem?_eq_some_iff.1 ho).1)
  cases fuel with
  | zero => exact ⟨hr, h⟩
  | succ fuel => exact ⟨fun _ => h, fun i hi => by rw [hr] at hi; simp at hi⟩
/-- the first ones from a place on, in any order -/
theorem any_heads (p h : Nat) (hph : p ≤ h) (hle : h ≤ ops.size) (hch : Parted ops h) (hbel : Backw ops)
    (J : (Nat → Prop) → Act → World → Prop) (hJ : ∀ L L' a w, (∀ j, j < h → (L j ↔ L' j)) → J L a w → J L' a w)
    (hstep : ∀ i o L a w, p ≤ i → i < h → ops[i]? = some o → ¬ L i → (∀ q ∈ aftN o, L q) → J L a w → ∀ K : Act → World → Prop, (∀ a' w', J (fun j => j = i ∨ L j) a' w' → K a' w') → wpOp P ops Q i K a w)
    (hend : ∀ a w, J (fun j => j < h) a w → WA P ops Q h a w) :
    ∀ (fuel : Nat) (listed : Array Bool) (a : Act) (w : World), listed.size = ops.size → (∀ j, Lst listed j → j < h) → (∀ j, j < p → Lst listed j) → (∀ j o, ops[j]? = some o → Lst listed j → ∀ q ∈ aftN o, Lst listed q) →
      ((List.range ops.size).filter fun j => !listed.getD j true).length ≤ fuel → J (Lst listed) a w → wpAny P .any ops Q fuel listed a w := by
  intro fuel
  induction fuel with
  | zero =>
    intro listed a w hsz hlh hlp hcl hc hj
    have hall : ∀ j, j < ops.size → Lst listed j := by
      intro j hjs
      have h0 := List.length_eq_zero_iff.1 (Nat.le_zero.1 hc)
      have : j ∉ (List.range ops.size).filter fun j => !listed.getD j true := by rw [h0]; simp
      rw [List.mem_filter] at this
      apply Classical.byContradiction
      intro hn
      exact this ⟨List.mem_range.2 hjs, by rw [(unl (by omega)).2 hn]; rfl⟩
    have heq : h = ops.size := by
      apply Nat.le_antisymm hle
      apply Nat.le_of_not_lt; intro hc
      have := hlh _ (hall h hc); omega
    exact hend a w (hJ _ _ a w (fun j hjh => ⟨fun _ => hjh, fun _ => hall j (by omega)⟩) hj) 0 listed hsz (fun j => ⟨hlh j, fun hjh => hall j (by omega)⟩) (by omega)
  | succ fuel ih =>
    intro listed a w hsz hlh hlp hcl hc hj
    by_cases hall : ∀ j, j < h → Lst listed j
    · refine hend a w (hJ _ _ a w (fun j hjh => ⟨fun _ => hjh, fun _ => hall j hjh⟩) hj) (fuel + 1) listed hsz (fun j => ⟨hlh j, hall j⟩) (Nat.le_trans ?_ hc)
      -- the others are not listed
      have hsub : (List.range' h (ops.size - h)).length ≤ ((List.range ops.size).filter fun j => !listed.getD j true).length := by
        apply List.Sublist.length_le
        rw [range_cut hle, List.filter_append]
        have hself : (List.range' h (ops.size - h)).filter (fun j => !listed.getD j true) = List.range' h (ops.size - h) := by
          apply List.filter_eq_self.2
          intro j hjm
          obtain ⟨q, hq, rfl⟩ := List.mem_range'.1 hjm
          rw [(unl (by omega)).2 (fun hc => by have := hlh _ hc; omega)]; rfl
        rw [hself]
        exact List.sublist_append_right _ _
      simpa using hsub
    · -- one of the first ones is not listed: there is one that may come
      have hne : ∃ j, j < h ∧ ¬ Lst listed j := by
        apply Classical.byContradiction
        intro hn
        exact hall fun j hjh => Classical.byContradiction fun hc => hn ⟨j, hjh, hc⟩
      have hlow : ∃ j, j < h ∧ ¬ Lst listed j ∧ ∀ q < j, Lst listed q := by
        obtain ⟨j, hjh, hjl⟩ := hne
        induction j using Nat.strongRecOn with
        | _ j ihj =>
          by_cases hq : ∃ q < j, ¬ Lst listed q
          · obtain ⟨q, hq1, hq2⟩ := hq
            exact ihj q hq1 (by omega) hq2
          · exact ⟨j, hjh, hjl, fun q hq1 => Classical.byContradiction fun hc => hq ⟨q, hq1, hc⟩⟩
      refine ⟨fun hr => ?_, fun i hi => ?_⟩
      · exfalso
        obtain ⟨j, hjh, hjl, hq⟩ := hlow
        have hjs : j < ops.size := by omega
        have : j ∈ Region.ready .any ops listed := (ready_iff hsz).2 ⟨hjl, _, Array.getElem?_eq_getElem hjs, fun q hqa => hq q (hbel j _ (Array.getElem?_eq_getElem hjs) q hqa)⟩
        rw [hr] at this; simp at this
      · obtain ⟨h1, o, ho, h2⟩ := (ready_iff hsz).1 hi
        have his : i < listed.size := by rw [hsz]; exact (Array.getElem?_eq_some_iff.1 ho).1
        have hih : i < h := by
          apply Nat.lt_of_not_le
          intro hge
          obtain ⟨j, hjh, hjl, _⟩ := hlow
          exact hjl (hch i o hge ho (Lst listed) hcl h2 j hjh)
        have hpi : p ≤ i := by
          apply Nat.le_of_not_lt
          intro hlt
          exact h1 (hlp i hlt)
        refine hstep i o (Lst listed) a w hpi hih ho h1 h2 hj _ fun a' w' hJ' => ?_
        refine ih _ a' w' (by simpa using hsz) ?_ ?_ ?_ ?_ (hJ _ _ a' w' (fun j _ => (lst_set his).symm) hJ')
        · intro j hl
          rcases (lst_set his).1 hl with rfl | hl
          · exact hih
          · exact hlh j hl
        · intro j hjp
          exact (lst_set his).2 (.inr (hlp j hjp))
        · intro j oj hoj hl q hq
          rw [lst_set his]
          rcases (lst_set his).1 hl with rfl | hl
          · rw [ho] at hoj; cases hoj
            exact .inr (h2 q hq)
          · exact .inr (hcl j oj hoj hl q hq)
        · -- one fewer
          have : ((List.range ops.size).filter fun j => !(listed.setIfInBounds i true).getD j true).length < ((List.range ops.size).filter fun j => !listed.getD j true).length := by
            rw [← List.countP_eq_length_filter, ← List.countP_eq_length_filter]
            have hlt : i < ops.size := by omega
            have hsplit : List.range ops.size = List.range i ++ i :: List.range' (i + 1) (ops.size - (i + 1)) := by
              have : i :: List.range' (i + 1) (ops.size - (i + 1)) = List.range' i (ops.size - i) := by
                rw [show ops.size - i = (ops.size - (i + 1)) + 1 by omega, List.range'_succ]
              rw [this]
              exact range_cut (by omega)
            rw [hsplit, List.countP_append, List.countP_append, List.countP_cons, List.countP_cons]
            have e1 : ∀ l : List Nat, i ∉ l → l.countP (fun j => !(listed.setIfInBounds i true).getD j true) = l.countP (fun j => !listed.getD j true) := by
              intro l hl
              apply List.countP_congr
              intro j hjm
              rw [getD_set_ne true (fun e => hl (by rw [e]; exact hjm))]
            rw [e1 _ (by simp), e1 _ (by rw [List.mem_range']; omega)]
            have e2 : (!listed.getD i true) = true := by rw [(unl his).2 h1]; rfl
            have e3 : (!(listed.setIfInBounds i true).getD i true) = false := by simp [his]
            rw [e2, e3]
            simp
          omega
theorem unlisted_count {listed : Array Bool} {p : Nat} (hsz : listed.size = ops.size) (hl : ∀ j, Lst listed j ↔ j < p) (hp : p ≤ ops.size) : ((List.range ops.size).filter fun j => !listed.getD j true).length = ops.size - p := by
  rw [range_cut hp, List.filter_append]
  have h1 : (List.range p).filter (fun j => !listed.getD j true) = [] := by
    apply List.filter_eq_nil_iff.2
    intro j hj
    have hj := List.mem_range.1 hj
    have := (hl j).2 hj
    have hjs : j < listed.size := by omega
    intro hc
    have h2 : listed.getD j true = false := by simpa using hc
    exact (unl hjs).1 h2 this
  have h2 : (List.range' p (ops.size - p)).filter (fun j => !listed.getD j true) = List.range' p (ops.size - p) := by
    apply List.filter_eq_self.2
    intro j hjm
    obtain ⟨q, hq, rfl⟩ := List.mem_range'.1 hjm
    rw [(unl (by omega)).2 (fun hc => by have := (hl _).1 hc; omega)]; rfl
  rw [h1, h2]; simp
/-- a stretch of operations, in any order -/
theorem WA.seg (p h : Nat) (hph : p ≤ h) (hle : h ≤ ops.size) (hch : Parted ops h) (hbel : Backw ops)
    (J : (Nat → Prop) → Act → World → Prop) (hJ : ∀ L L' a w, (∀ j, j < h → (L j ↔ L' j)) → J L a w → J L' a w)
    (hstep : ∀ i o L a w, p ≤ i → i < h → ops[i]? = some o → ¬ L i → (∀ q ∈ aftN o, L q) → J L a w → ∀ K : Act → World → Prop, (∀ a' w', J (fun j => j = i ∨ L j) a' w' → K a' w') → wpOp P ops Q i K a w)
    (hend : ∀ a w, J (fun j => j < h) a w → WA P ops Q h a w) {a : Act} {w : World} (h0 : J (fun j => j < p) a w) : WA P ops Q p a w := by
  intro fuel listed hsz hl hf
  refine any_heads p h hph hle hch hbel J hJ hstep hend fuel listed a w hsz (fun j hj => by have := (hl j).1 hj; omega) (fun j hj => (hl j).2 hj) ?_ ?_ (hJ _ _ a w (fun j _ => (hl j).symm) h0)
  · intro j o ho hlj q hq
    have h1 := hbel j o ho q hq
    have h2 := (hl j).1 hlj
    exact (hl q).2 (by omega)
  · rw [unlisted_count hsz hl (by omega)]; exact hf
/-- one operation, behind all that is before it, and before all else -/
theorem WA.one (i : Nat) (hi : i < ops.size) (hch : Parted ops (i + 1)) (hbel : Backw ops) {a : Act} {w : World} (h : wpOp P ops Q i (WA P ops Q (i + 1)) a w) : WA P ops Q i a w := by
  intro fuel listed hsz hl hf
  have hready : ∀ j, j ∈ Region.ready .any ops listed ↔ j = i := by
    intro j
    rw [ready_iff hsz]
    constructor
    · rintro ⟨h1, o, ho, h2⟩
      have hij : i ≤ j := by
        apply Nat.le_of_not_lt; intro hc; exact h1 ((hl j).2 hc)
      apply Nat.le_antisymm _ hij
      apply Nat.le_of_not_lt; intro hc
      have := hch j o (by omega) ho (Lst listed) (fun j' o' ho' hl' q hq => (hl q).2 (by have := hbel j' o' ho' q hq; have := (hl j').1 hl'; omega)) h2 i (by omega)
      have := (hl i).1 this
      omega
    · rintro rfl
      refine ⟨fun hc => by have := (hl j).1 hc; omega, _, Array.getElem?_eq_getElem hi, fun q hq => (hl q).2 (hbel j _ (Array.getElem?_eq_getElem hi) q hq)⟩
  cases fuel with
  | zero => omega
  | succ fuel =>
    refine ⟨fun hr => ?_, fun j hj => ?_⟩
    · have := (hready i).2 rfl
      rw [hr] at this; simp at this
    · have := (hready j).1 hj
      subst this
      refine wpOp_mono (fun a w h' => ?_) h
      refine h' fuel _ (by simpa using hsz) (fun q => ?_) (by omega)
      rw [lst_set (by rw [hsz]; exact hi), hl]
      omega
end
end Go.Sx
end
section
namespace Go.Sx
open Go
variable {P : Program} {E : Env} {n k : Nat}

/-! a call whose answer is kept ags it is told -/
def immL (ML : List Blk) : AV → AV
  | .own n => match ML[n]? with
    | some (.arr k xs) => .sl k xs
    | _ => .top
  | .val v => .val v
  | .tt => .tt
  | .ff => .ff
  | .sl k xs => .sl k xs
  | .ifc T a => match a.plain1 with
    | true => .ifc T a
    | false => .top
  | _ => .top
def imm1 (ML : List Blk) : AV → AV
  | .agg cs => .agg (cs.map (immL ML))
  | x => immL ML x
def imm2 (ML : List Blk) : AV → AV
  | .tup cs => .tup (cs.map (imm1 ML))
  | x => imm1 ML x
theorem reps_map {F F' Hp Hp' : PH} {hs hs' : List Value} {f : AV → AV} (hf : ∀ {x : AV} {v : Value}, Rep F Hp hs x v → Rep F' Hp' hs' (f x) v) {l : List AV} {vs : List Value} (h : Reps F Hp hs l vs) : Reps F' Hp' hs' (l.map f) vs := by
  refine Reps.of_get (by rw [List.length_map]; exact h.length) fun i x u h1 h2 => ?_
  obtain ⟨x', e1, e2⟩ := h.getv i u h2
  rw [List.getElem?_map, e1] at h1; cases h1
  exact hf e2
theorem InvS.backI {w0 : Base P} {w w' : World} {F Hp Hp' : PH} {hs hsL : List Value} {M ML : List Blk} (hi : InvS w0 F Hp hs M w) (hle : Hp.le Hp') (hL : InvS w0 (lend F hs M [] w) Hp' hsL ML w') :
    ∃ Hp'', Hp.le Hp'' ∧ InvS w0 F Hp'' hs M w' ∧ (∀ {av : AV} {v : Value}, Rep (lend F hs M [] w) Hp' hsL av v → ∀ hs2, Rep F Hp'' hs2 (imm2 ML av) v) ∧ ∀ (n : Nat) blk v b, M[n]? = some blk → blk.live = true → hs[n]? = some v → idOf v = some b → w'.heap[b]? = w.heap[b]? := by
  let Hp'' : PH := fun b => match Hp' b with
    | some o => some o
    | none => open Classical in if ∃ (n : Nat) (k : Kd) (xs : List (El k)) (v : Value), ML[n]? = some (Blk.arr k xs) ∧ hsL[n]? = some v ∧ idOf v = some b then w'.heap[b]? else none
  have hle2 : Hp'.le Hp'' := fun b o h => by simp only [Hp'', h]
  have hinv : ∀ b o, Hp'' b = some o → Hp' b = some o ∨ (w'.heap[b]? = some o ∧ ∃ (n : Nat) (k : Kd) (xs : List (El k)) (v : Value), ML[n]? = some (Blk.arr k xs) ∧ hsL[n]? = some v ∧ idOf v = some b) := by
    intro b o h
    simp only [Hp''] at h
    split at h
    · rename_i o' h'; cases h; exact .inl h'
    · split at h
      · rename_i hx; exact .inr ⟨h, hx⟩
      · cases h
  have hF : ∀ {b : Nat}, lend F hs M [] w b = none → F b = none := by
    intro b hb
    cases hx : F b with
    | none => rfl
    | some o => rw [lend_le b o hx] at hb; cases hb
  have oth : ∀ {n : Nat} {blk : Blk} {v : Value} {b : Nat}, M[n]? = some blk → blk.live = true → hs[n]? = some v → idOf v = some b → w'.heap[b]? = w.heap[b]? ∧ lend F hs M [] w b ≠ none := by
    intro n blk v b h2 h3 h4 h5
    obtain ⟨o, ho⟩ := (hi.blk n blk v h2 h4).id h5 h3
    have e := lend_at hi (by simp) h2 h3 h4 h5 (ns := [])
    rw [ho] at e
    exact ⟨by rw [hL.fr b o e, ho], by rw [e]; simp⟩
  refine ⟨Hp'', hle.trans hle2, ⟨?_, fun b o h => hL.fr b o (lend_le b o h), ?_, hi.len, hi.one, ?_, ?_, hi.inj, hL.os, hL.tape, hL.output, fun b o h => (hi.gl b o h).imp id (fun h => hle2 b o (hle b o h))⟩, ?_, fun n blk v b h2 h3 h4 h5 => (oth h2 h3 h4 h5).1⟩
  · intro b o h
    rcases hinv b o h with h | ⟨h, _⟩
    · exact hL.perm b o h
    · exact h
  · intro b
    cases hx : Hp'' b with
    | none => exact .inl rfl
    | some o =>
      refine .inr (hF ?_)
      rcases hinv b o hx with h | ⟨_, n, k, xs, v, h1, h2, h3⟩
      · rcases hL.pf b with g | g
        · rw [g] at h; cases h
        · exact g
      · exact (hL.own n _ v b h1 rfl h2 h3).2
  · intro n blk v h1 h2
    by_cases hl : blk.live = true
    · exact (hi.blk n blk v h1 h2).mono (PH.le.refl _) (hle.trans hle2) (HL.refl _) fun b hb => (oth h1 hl h2 hb).1
    · cases blk <;> simp [Blk.live] at hl
      trivial
  · intro n blk v b h1 hl h2 hb
    refine ⟨?_, (hi.own n blk v b h1 hl h2 hb).2⟩
    have hne := (oth h1 hl h2 hb).2
    cases hx : Hp'' b with
    | none => rfl
    | some o =>
      rcases hinv b o hx with h | ⟨_, m, k, xs, v', g1, g2, g3⟩
      · rcases hL.pf b with g | g
        · rw [g] at h; cases h
        · exact absurd g hne
      · exact absurd (hL.own m _ v' b g1 rfl g2 g3).2 hne
  · have h0 : ∀ {hs2 : List Value} {av : AV} {v : Value}, Rep (lend F hs M [] w) Hp' hsL av v → Rep F Hp'' hs2 (immL ML av) v := by
      intro hs2 av v h
      unfold immL
      split
      · rename_i n
        split
        · rename_i k xs hm
          cases h with
          | own _ _ hn =>
            obtain ⟨A, cap, rfl, q1, q2, q3, q4⟩ := hL.blk n _ _ hm hn
            cases A with
            | none =>
              have hc := q3 rfl
              have hx0 : xs = [] := List.length_eq_zero_iff.1 (by omega)
              subst hx0; subst hc
              exact Rep.nil_sl _
            | some a =>
              obtain ⟨b, T, c, rfl, g1, g2, g3⟩ := q4 a rfl
              refine sl_of q1 q2 (T := T) (c := c) ?_ (fun i x hx => enc_free (Reps.mono (PH.le.refl _) hle2 (HL.refl _) (g3 i x hx)))
              simp only [Hp'']
              have hown := (hL.own n _ _ b hm rfl hn rfl).1
              rw [hown]
              simp only
              rw [if_pos ⟨n, k, xs, _, hm, hn, rfl⟩, g1]
        · exact .top _
      · cases h.inv_val; exact .val _
      · cases h.inv_tt; exact .tt
      · cases h.inv_ff; exact .ff
      · exact Rep.mono (PH.le.refl _) hle2 (HL.refl _) (sl_free h)
      · split
        · rename_i hp
          cases h with | ifc _ _ _ h => exact .ifc _ _ _ (Rep.mono (PH.le.refl _) hle2 (HL.refl _) (plain1_free hp h))
        · exact .top _
      · exact .top _
    have h1 : ∀ {hs2 : List Value} {av : AV} {v : Value}, Rep (lend F hs M [] w) Hp' hsL av v → Rep F Hp'' hs2 (imm1 ML av) v := by
      intro hs2 av v h
      unfold imm1
      split
      · obtain ⟨vs, rfl, g⟩ := h.inv_agg
        exact .agg _ _ (reps_map h0 g)
      · exact h0 h
    intro av v h hs2
    unfold imm2
    split
    · obtain ⟨vs, rfl, g⟩ := h.inv_tup
      exact .tup _ _ (reps_map h1 g)
    · exact h1 h
/-- more blocks than are told -/
def Ext (M : List Blk) (hs : List Value) (M' : List Blk) (hs' : List Value) : Prop := ∃ T ex, M' = M ++ T ∧ hs' = hs ++ ex ∧ hs.length = M.length
theorem Ext.refl {M : List Blk} {hs : List Value} (h : hs.length = M.length) : Ext M hs M hs := ⟨[], [], by simp, by simp, h⟩
theorem Ext.get {M M' : List Blk} {hs hs' : List Value} (h : Ext M hs M' hs') : (∀ (n : Nat) b, M[n]? = some b → M'[n]? = some b) ∧ (∀ (n : Nat) v, hs[n]? = some v → hs'[n]? = some v) := by
  obtain ⟨T, ex, rfl, rfl, _⟩ := h
  exact ⟨fun n b hb => by rw [List.getElem?_append_left (List.getElem?_eq_some_iff.1 hb).1]; exact hb, fun n v hv => by rw [List.getElem?_append_left (List.getElem?_eq_some_iff.1 hv).1]; exact hv⟩
/-- what is told stays so, where its blocks are left alone -/
theorem InvS.keep {w0 : Base P} {w w' : World} {F Hp Hp' : PH} {hs hs' : List Value} {M M' : List Blk} (he : Ext M hs M' hs') (hi : InvS w0 F Hp hs M w) (hi' : InvS w0 F Hp' hs' M' w') (hle : Hp.le Hp')
    (hh : ∀ (n : Nat) blk v b, M[n]? = some blk → blk.live = true → hs[n]? = some v → idOf v = some b → w'.heap[b]? = w.heap[b]?) : InvS w0 F Hp' hs M w' := by
  obtain ⟨e1, e2⟩ := he.get
  refine ⟨hi'.perm, hi'.fr, hi'.pf, hi.len, hi.one, fun n blk v h1 h2 => ?_, fun n b h a h1 hl h2 h3 => hi'.own n b h a (e1 _ _ h1) hl (e2 _ _ h2) h3,
    fun n m bn bm hn hm b h1 h2 l1 l2 g1 g2 i1 i2 => hi'.inj n m bn bm hn hm b (e1 _ _ h1) (e1 _ _ h2) l1 l2 (e2 _ _ g1) (e2 _ _ g2) i1 i2, hi'.os, hi'.tape, hi'.output, hi'.gl⟩
  by_cases hl : blk.live = true
  · exact (hi.blk n blk v h1 h2).mono (PH.le.refl _) hle (HL.refl _) fun b hb => hh n blk v b h1 hl h2 hb
  · cases blk <;> simp [Blk.live] at hl
    trivial
theorem lend_ext {w0 : Base P} {w : World} {F Hp : PH} {hs hs' : List Value} {M M' : List Blk} (he : Ext M hs M' hs') (hi : InvS w0 F Hp hs M w) (hi' : InvS w0 F Hp hs' M' w) : (lend F hs M [] w).le (lend F hs' M' [] w) := by
  obtain ⟨e1, e2⟩ := he.get
  intro b o h
  rcases lend_inv hi h with h | ⟨_, n, blk, v, hn, hm, hl, hv, hb, hw⟩
  · exact lend_le b o h
  · rw [lend_at hi' hn (e1 _ _ hm) hl (e2 _ _ hv) hb]; exact hw
def evCallI (Γ : Cons) (f : FuncId) (ags : List AV) (M : List Blk) (K : AV → Prop) : Prop :=
  match Γ f with
  | some c => match startN c.md ags [] with
    | [] => locAs M [] c.md ags fun ags' => c.ev ags' [] fun av ML => K (imm2 ML av)
    | _ => False
  | none => False
theorem evCallI_ok {Γ : Cons} (hΓ : ConsOk P Γ) {f : FuncId} {ags : List AV} {M : List Blk} {K : AV → Prop} (h : evCallI Γ f ags M K) : ∃ av, K av ∧ ∀ (w0 : Base P) F Hp hs hs' M' w vs, Ext M hs M' hs' → InvS w0 F Hp hs M w → InvS w0 F Hp hs' M' w → Reps F Hp hs ags vs →
    Runs P f vs w fun v w' => ∃ Hp', Hp.le Hp' ∧ InvS w0 F Hp' hs M w' ∧ InvS w0 F Hp' hs' M' w' ∧ Rep F Hp' hs av v := by
  unfold evCallI at h
  split at h
  · rename_i c hc
    split at h
    · obtain ⟨ags', hJ, has⟩ := locAs_ok (ns := []) List.nodup_nil (by simp) _ _ _ h
      obtain ⟨av, ML, hK, hrun⟩ := hΓ f c hc _ _ _ hJ
      refine ⟨_, hK, fun w0 F Hp hs hs' M' w vs he hi hi' hr => ?_⟩
      obtain ⟨e1, e2⟩ := he.get
      have hags := has w0 F Hp hs w vs hi hr
      have hags' : Reps (lend F hs' M' [] w) Hp [] ags' vs := Reps.mono (lend_ext he hi hi') (PH.le.refl _) (HL.refl _) hags
      refine (hrun w0 _ Hp [] w vs (hi'.lent List.nodup_nil (by simp)) hags').mono ?_
      rintro v w' ⟨Hp', hsL, hle, hag, hL, hrep⟩
      obtain ⟨Hp'', q1, q2, q3, q4⟩ := hi'.backI hle hL
      exact ⟨Hp'', q1, hi.keep he q2 q1 (fun n blk v b h1 h2 h3 h4 => q4 n blk v b (e1 _ _ h1) h2 (e2 _ _ h3) h4), q2, q3 hrep _⟩
    · exact h.elim
  · exact h.elim

/-- an operation that leaves what is owned alone -/
def HStep (P : Program) (o : Oper) (ρ : Operand → AV) (M : List Blk) (av : AV) : Prop :=
  ∀ (w0 : Base P) F Hp hs hs' M' w (a : Act) next Q, Ext M hs M' hs' → InvS w0 F Hp hs M w → InvS w0 F Hp hs' M' w → (∀ x, Rep F Hp hs (ρ x) (a.eval x)) →
    (∀ Hp' w' v, Hp.le Hp' → InvS w0 F Hp' hs M w' → InvS w0 F Hp' hs' M' w' → Rep F Hp' hs av v → next (a.put o.dst v) w') → o.wp P a w next Q
theorem HStep.of_pure {o : Oper} {ρ : Operand → AV} {M : List Blk} {av : AV} (h : OpPure P o ρ M av) : HStep P o ρ M av := by
  intro w0 F Hp hs hs' M' w a next Q he hi hi' hr hn
  obtain ⟨v, h1, h4⟩ := h w0 F Hp hs w a.eval hi hr
  unfold Oper.wp
  rw [h1]
  exact hn Hp w v (PH.le.refl _) hi hi' h4
theorem HStep.of_all {o : Oper} {ρ : Operand → AV} {M : List Blk} {av : AV} (h : ∀ (w0 : Base P) F Hp hs w (ev : Operand → Value), InvS w0 F Hp hs M w → (∀ x, Rep F Hp hs (ρ x) (ev x)) →
    ∃ v Hp' w', (execOp ev o).run P w = .ok (.value v) w' ∧ Hp.le Hp' ∧ (∀ hs M, InvS w0 F Hp hs M w → InvS w0 F Hp' hs M w') ∧ Rep F Hp' hs av v) : HStep P o ρ M av := by
  intro w0 F Hp hs hs' M' w a next Q he hi hi' hr hn
  obtain ⟨v, Hp', w', h1, h2, h3, h4⟩ := h w0 F Hp hs w a.eval hi hr
  unfold Oper.wp
  rw [h1]
  exact hn Hp' w' v h2 (h3 _ _ hi) (h3 _ _ hi') h4
def evH (E : Env) (op : Op) (ρ : Operand → AV) (M : List Blk) (K : AV → Prop) : Prop :=
  match op with
  | .buildSlice t len parts => evLitI E.ty t len (parts.toList.map fun p => (p.1, ρ p.2)) K
  | .makeInterface t x => evIface E.ty t (ρ x) K
  | .typeAssert x _ t ok => evAssert E.ty (ρ x) t ok K
  | .convert src dst x => match toSl E.ty dst with
    | true => evS2B E.ty src dst (ρ x) K
    | false => evR E.ty (.convert src dst x) ρ M K
  | .call { callee := .value g, args := xs, argTypes := _ } => match funcOf (ρ g) with
    | some f => evCallI E.Γ f (xs.toList.map ρ) M K
    | none => False
  | .call { callee := .invoke g nm, args := xs, argTypes := _ } => match ρ g with
    | .ifc T a => match E.mth T with
      | some (nm', f) => match decide (nm = nm') with
        | true => evCallI E.Γ f (a :: xs.toList.map ρ) M K
        | false => False
      | none => False
    | _ => False
  | op => evR E.ty op ρ M K
theorem evH_ok (hE : EnvOk P E) {o : Oper} {ρ : Operand → AV} {M : List Blk} {K : AV → Prop} (h : evH E o.op ρ M K) : ∃ av, K av ∧ HStep P o ρ M av := by
  obtain ⟨dst, op, type, pos, after, guard⟩ := o
  simp only at h
  unfold evH at h
  split at h
  · rename_i t len parts
    obtain ⟨av, hK, _, hr⟩ := evLitI_okX hE.ty h
    refine ⟨av, hK, .of_all fun w0 F Hp hs w ev hi hv => ?_⟩
    obtain ⟨v, Hp', w', h1, h2, h3, h4⟩ := hr w0 F Hp hs M w ev hi hv
    exact ⟨v, Hp', w', by simp only [execOp, Sem.run_bind, h1, Result.andThen_ok, Sem.run_pure], h2, h3, h4⟩
  · rename_i t x
    obtain ⟨av, hK, hr⟩ := evIface_ok hE.ty h
    refine ⟨av, hK, .of_pure fun w0 F Hp hs w ev hi hv => ?_⟩
    obtain ⟨v, h1, h2⟩ := hr F Hp hs w _ (hv x)
    exact ⟨v, by simp [execOp, h1], h2⟩
  · rename_i x T t ok
    obtain ⟨av, hK, hr⟩ := evAssert_ok hE.ty h
    refine ⟨av, hK, .of_pure fun w0 F Hp hs w ev hi hv => ?_⟩
    obtain ⟨v, h1, h2⟩ := hr F Hp hs w _ T (hv x)
    exact ⟨v, by simp [execOp, h1], h2⟩
  · rename_i src d x
    split at h
    · obtain ⟨av, hK, _, hr⟩ := evS2B_okX hE.ty h
      refine ⟨av, hK, .of_all fun w0 F Hp hs w ev hi hv => ?_⟩
      obtain ⟨v, Hp', w', h1, h2, h3, h4⟩ := hr w0 F Hp hs M w _ hi (hv x)
      exact ⟨v, Hp', w', by simp [execOp, h1], h2, h3, h4⟩
    · obtain ⟨av, hav, hK⟩ := evR_okP (o := ⟨dst, .convert src d x, type, pos, after, guard⟩) hE.ty h
      exact ⟨av, hK, .of_pure hav⟩
  · rename_i g xs ts
    split at h
    · rename_i f hf
      obtain ⟨av, hK, hr⟩ := evCallI_ok hE.Γ h
      refine ⟨av, hK, fun w0 F Hp hs hs' M' w a next Q he hi hi' hv hn => ?_⟩
      have hrun := hr w0 F Hp hs hs' M' w _ he hi hi' (reps_ev hv xs.toList)
      have hg := hv g
      unfold funcOf at hf
      split at hf
      · rename_i f' A B hρ
        split at hf
        · rename_i e1 e2
          cases hf
          have e1 : A = #[] := by rw [← Array.toList_inj, e1]
          have e2 : B = #[] := by rw [← Array.toList_inj, e2]
          subst e1 e2
          rw [hρ] at hg
          have hg := hg.inv_val
          refine wp_runs (w1 := w) ?_ hrun (fun v w' hR => ?_)
          · have e : (xs.toList.map a.eval).toArray = xs.map a.eval := by rw [← Array.toList_inj]; simp
            simp [execOp, resolve, hg, Deferred.ofValue, invoke, e]
          · obtain ⟨Hp', q1, q2, q2', q3⟩ := hR
            exact hn Hp' w' v q1 q2 q2' q3
        · cases hf
      · cases hf
    · exact h.elim
  · rename_i g nm xs ts
    split at h
    · rename_i T x hρ
      split at h
      · rename_i nm' f hm
        split at h
        · rename_i hnm
          have hnm := of_decide_eq_true hnm
          subst hnm
          obtain ⟨av, hK, hr⟩ := evCallI_ok hE.Γ h
          refine ⟨av, hK, fun w0 F Hp hs hs' M' w a next Q he hi hi' hv hn => ?_⟩
          have hg := hv g
          rw [hρ] at hg
          have hg : ∃ v, a.eval g = .iface T v ∧ Rep F Hp hs x v := by
            generalize a.eval g = u at hg
            cases hg with | ifc _ _ v h => exact ⟨v, rfl, h⟩
          obtain ⟨v0, hg, hx⟩ := hg
          have hrun := hr w0 F Hp hs hs' M' w _ he hi hi' (.cons hx (reps_ev hv xs.toList))
          refine wp_runs (w1 := w) ?_ hrun (fun v w' hR => ?_)
          · have e : (v0 :: xs.toList.map a.eval).toArray = #[v0] ++ xs.map a.eval := by rw [← Array.toList_inj]; simp
            rw [e, ← hE.mth T nm f hm]
            have e2 : ((#[Value.iface T v0] ++ xs.map a.eval).extract 1 (#[Value.iface T v0] ++ xs.map a.eval).size) = xs.map a.eval := by
              apply Array.ext'
              rw [Array.toList_extract]
              simp [List.take_of_length_le]
            have e3 : (#[Value.iface T v0] ++ xs.map a.eval)[0]? = some (Value.iface T v0) := by
              rw [← Array.getElem?_toList]; simp
            simp only [execOp, resolve, hg, Sem.run_bind, Sem.run_pure, Result.andThen_ok, invoke]
            rw [e2, e3]
          · obtain ⟨Hp', q1, q2, q2', q3⟩ := hR
            exact hn Hp' w' v q1 q2 q2' q3
        · exact h.elim
      · exact h.elim
    · exact h.elim
  · obtain ⟨av, hav, hK⟩ := evR_okP (o := ⟨dst, op, type, pos, after, guard⟩) hE.ty h
    exact ⟨av, hK, .of_pure hav⟩
end Go.Sx
end
section
namespace Go.Sx
open Go
variable {P : Program} {E : Env} {n k : Nat}

/-- what the first ones told: place, slot, what -/
abbrev Told := List (Nat × Option Nat × AV)
def maskF : List Oper → Fr → Fr
  | [], fr => fr
  | o :: r, fr => maskF r (match o.dst with
    | some d => fr.put d .top
    | none => fr)
def layF (aft : Option (List Nat)) : Told → Fr → Fr
  | [], fr => fr
  | (j, some d, av) :: r, fr => match aft with
    | none => layF aft r (fr.put d av)
    | some l => match hasN l j with
      | true => layF aft r (fr.put d av)
      | false => layF aft r fr
  | (_, none, _) :: r, fr => layF aft r fr
def findT : Told → Nat → AV
  | [], _ => .top
  | (j, d, av) :: r, g => match Nat.beq j g with
    | true => match d with
      | some _ => av
      | none => .top
    | false => findT r g
def setT : Told → Nat → AV → Told
  | [], _, _ => []
  | (j, d, av) :: r, g, x => match Nat.beq j g with
    | true => (j, d, x) :: r
    | false => (j, d, av) :: setT r g x
def evBT (av : AV) (g : Nat) (R : Told) (yes no : Told → Prop) : Prop :=
  match av with
  | .tt => yes R
  | .ff => no R
  | .val (.bool c) => (c = true → yes (setT R g .tt)) ∧ (c = false → no (setT R g .ff))
  | _ => False
/-- the guard of an operation of a stretch: told in it, or before it -/
def evGdT (p : Nat) (seg all : List Oper) (o : Oper) (R : Told) (fr : Fr) (yes no : Told → Fr → Prop) : Prop :=
  match o.guard with
  | none => yes R fr
  | some (g, want) => match hasN (aftN o) g with
    | true => match Nat.ble p g with
      | true => match findT R g, want with
        | .val (.tuple _), _ => no R fr
        | av, true => evBT av g R (fun R => yes R fr) (fun R => no R fr)
        | av, false => evBT av g R (fun R => no R fr) (fun R => yes R fr)
      | false => match (all[g]?).bind (·.dst) with
        | some t => match hasN (dstsN seg) t with
          | false => match fr.get t, want with
            | .val (.tuple _), _ => no R fr
            | .tt, true => yes R fr
            | .tt, false => no R fr
            | .ff, true => no R fr
            | .ff, false => yes R fr
            | .val (.bool c), true => (c = true → yes R (fr.put t .tt)) ∧ (c = false → no R (fr.put t .ff))
            | .val (.bool c), false => (c = true → no R (fr.put t .tt)) ∧ (c = false → yes R (fr.put t .ff))
            | _, _ => False
          | true => False
        | none => False
    | false => False
/-- those of a stretch that needn't come behind a place -/
def early (i : Nat) : List Oper → List Oper
  | [] => []
  | o :: r => match hasN (aftN o) i with
    | true => early i r
    | false => o :: early i r
/-- an operation that turns what is owned -/
def isEff : Op → Bool
  | .store _ _ _ => true
  | .alloc _ => true
  | .box _ _ => true
  | .makeSlice _ _ _ => true
  | .call { callee := .builtin .append, args := _, argTypes := _ } => true
  | .call { callee := .builtin .copy, args := _, argTypes := _ } => true
  | _ => false
/-- an operation that makes a block, and turns none -/
def isAl : Op → Bool
  | .alloc _ => true
  | _ => false
def evHeads (E : Env) (p : Nat) (seg all : List Oper) (M : List Blk) : List Oper → Nat → Told → Fr → (Told → Fr → Prop) → Prop
  | [], _, R, fr, K => K R fr
  | o :: r, i, R, fr, K => match isEff o.op with
    | true => evHeads E p seg all M r (i + 1) (R ++ [(i, o.dst, .top)]) fr K
    | false => evGdT p seg all o R fr
      (fun R fr => evH E o.op (evO (layF (some (aftN o)) R (maskF (early i seg) fr))) M fun av => evHeads E p seg all M r (i + 1) (R ++ [(i, o.dst, av)]) fr K)
      (fun R fr => evHeads E p seg all M r (i + 1) (R ++ [(i, o.dst, .val undef)]) fr K)
def anyGe (b : Nat) : List Nat → Bool
  | [] => false
  | q :: r => match Nat.ble b q with
    | true => true
    | false => anyGe b r
def hasAft (q : Nat) : List Oper → Bool
  | [] => false
  | o :: r => match hasN (aftN o) q with
    | true => true
    | false => hasAft q r
/-- all before a place come before what has these ahead -/
def sinksIn (pre : List Oper) (l : List Nat) : Nat → Bool
  | 0 => true
  | q + 1 => match hasAft q pre with
    | true => sinksIn pre l q
    | false => match hasN l q with
      | true => sinksIn pre l q
      | false => false
def partB (pre : List Oper) (b : Nat) : List Oper → Bool
  | [] => true
  | o :: r => match anyGe b (aftN o) with
    | true => partB pre b r
    | false => match sinksIn pre (aftN o) b with
      | true => partB pre b r
      | false => false
def segsOk (n : Nat) (all : List Oper) : List Nat → Nat → Bool
  | [], p => Nat.beq p all.length
  | b :: bs, p => match Nat.ble (p + 1) b, Nat.ble b all.length, partB (all.take b) b (all.drop b), ndN (dstsN ((all.drop p).take (b - p))), below n (dstsN ((all.drop p).take (b - p))) with
    | true, true, true, true, true => segsOk n all bs b
    | _, _, _, _, _ => false
/-- a slot that is read into another one -/
def isMv (o : Oper) : Bool :=
  match o.guard, o.op with
  | none, .move _ => true
  | none, .assign _ => true
  | none, .extract _ _ => true
  | _, _ => false
/-- all that comes before -/
def ancL (all : List Oper) : Nat → List Nat → List Nat
  | 0, s => s
  | j + 1, s => match hasN s j with
    | true => match all[j]? with
      | some o => ancL all j (aftN o ++ s)
      | none => ancL all j s
    | false => ancL all j s
def ancOk (an : List Nat) : Nat → List Oper → Bool
  | _, [] => true
  | i, o :: r => match isMv o, hasN an i with
    | false, false => false
    | _, _ => ancOk an (i + 1) r
/-- is a stretch's last one such an operation, and may it be run behind the others? -/
def effLast (all : List Oper) (p b : Nat) : Option Oper :=
  match all[b - 1]? with
  | some e => match e.guard, isEff e.op, isAl e.op, ancOk (ancL all (b - 1) (aftN e)) p ((all.drop p).take (b - 1 - p)) with
    | none, true, true, _ => some e
    | none, true, false, true => some e
    | _, _, _, _ => none
  | none => none
def noEff : List Oper → Bool
  | [] => true
  | o :: r => match isEff o.op with
    | true => false
    | false => noEff r
def effIx : List Oper → Nat → List (Nat × Oper)
  | [], _ => []
  | o :: r, i => match isEff o.op with
    | true => (i, o) :: effIx r (i + 1)
    | false => effIx r (i + 1)
def anc2 (an : List Nat) (c : Nat) : Nat → List Oper → Bool
  | _, [] => true
  | i, o :: r => match Nat.beq i c, isMv o, hasN an i with
    | false, false, false => false
    | _, _, _ => anc2 an c (i + 1) r
def twoChk (all seg : List Oper) (p q : Nat) (oa : Oper) (c : Nat) (e : Oper) : Option (Nat × Oper × Nat × Nat × Oper) :=
  match oa.guard, e.guard, oa.dst, anc2 (ancL all c (aftN e)) c p seg with
  | none, none, some d0, true => some (q, oa, d0, c, e)
  | _, _, _, _ => none
/-- a stretch with a block that is made, and one that turns what is owned behind it -/
def twoEff (all seg : List Oper) (p : Nat) : Option (Nat × Oper × Nat × Nat × Oper) :=
  match effIx seg p with
  | [(i1, o1), (i2, o2)] => match isAl o1.op, isAl o2.op with
    | true, false => twoChk all seg p i1 o1 i2 o2
    | false, true => twoChk all seg p i2 o2 i1 o1
    | _, _ => none
  | _ => none
/-- the stretches of a drawn region -/
def evSegs (E : Env) (n : Nat) (fz : List Nat) (all : List Oper) : List Nat → Nat → Fr → List Blk → (Fr → List Blk → Prop) → Prop
  | [], _, fr, M, K => K fr M
  | b :: bs, p, fr, M, K => match Nat.beq b (p + 1), all[p]? with
    | true, some o => evGd all o fr M
        (fun fr M => evW E o.op (evO fr) M fun av M' => evPut n fz o.dst av fr M' fun fr' M'' => evSegs E n fz all bs b fr' M'' K)
        (fun fr M => evPut n [] o.dst (.val undef) fr M fun fr' M' => evSegs E n fz all bs b fr' M' K)
    | _, _ => match twoEff all ((all.drop p).take (b - p)) p with
      | some (_, oa, d0, c, e) => evHeads E p ((all.drop p).take (b - p)) all M ((all.drop p).take (b - p)) p [] fr fun R fr' =>
          evW E oa.op (fun _ => .top) M fun av0 M0 =>
            evW E e.op (evO ((layF (some (aftN e)) R (maskF (early c ((all.drop p).take (b - p))) fr')).put d0 av0)) M0 fun av M1 =>
              evPut n fz e.dst av ((layF none R (maskF ((all.drop p).take (b - p)) fr')).put d0 av0) M1 fun fr'' M'' => evSegs E n fz all bs b fr'' M'' K
      | none => match effLast all p b with
        | none => match noEff ((all.drop p).take (b - p)) with
          | true => evHeads E p ((all.drop p).take (b - p)) all M ((all.drop p).take (b - p)) p [] fr fun R fr' => evSegs E n fz all bs b (layF none R (maskF ((all.drop p).take (b - p)) fr')) M K
          | false => False
        | some e => match noEff ((all.drop p).take (b - 1 - p)) with
          | true => evHeads E p ((all.drop p).take (b - p)) all M ((all.drop p).take (b - 1 - p)) p [] fr fun R fr' =>
            evW E e.op (evO (layF (some (aftN e)) R (maskF (early (b - 1) ((all.drop p).take (b - p))) fr'))) M fun av M' =>
              evPut n fz e.dst av (layF none R (maskF ((all.drop p).take (b - p)) fr')) M' fun fr'' M'' => evSegs E n fz all bs b fr'' M'' K
          | false => False
def evDraw (E : Env) (n : Nat) (fz : List Nat) (bs : List Nat) (all : List Oper) (fr : Fr) (M : List Blk) (K : Fr → List Blk → Prop) : Prop :=
  match belowAll 0 all, segsOk n all bs 0 with
  | true, true => evSegs E n fz all bs 0 fr M K
  | _, _ => False

section
variable {ops : Array Oper} {Q : Exit → Act → World → Prop}
theorem dstsN_mem : ∀ {l : List Oper} {j : Nat} {o : Oper} {d : Nat}, l[j]? = some o → o.dst = some d → d ∈ dstsN l
  | [], j, o, d, h, _ => by simp at h
  | p :: r, 0, o, d, h, hd => by
    simp at h; subst h
    simp only [dstsN, hd]; exact List.mem_cons_self ..
  | p :: r, j + 1, o, d, h, hd => by
    have ih := dstsN_mem (l := r) (j := j) (by simpa using h) hd
    simp only [dstsN]
    split
    · exact List.mem_cons_of_mem _ ih
    · exact ih
theorem dstsN_inj : ∀ {l : List Oper}, (dstsN l).Nodup → ∀ {i j : Nat} {o p : Oper} {d : Nat}, l[i]? = some o → l[j]? = some p → o.dst = some d → p.dst = some d → i = j
  | [], _, i, j, o, p, d, h, _, _, _ => by simp at h
  | q :: r, hn, 0, 0, o, p, d, _, _, _, _ => rfl
  | q :: r, hn, 0, j + 1, o, p, d, h1, h2, d1, d2 => by
    simp at h1; subst h1
    simp only [dstsN, d1] at hn
    exact absurd (dstsN_mem (l := r) (j := j) (by simpa using h2) d2) (List.nodup_cons.1 hn).1
  | q :: r, hn, i + 1, 0, o, p, d, h1, h2, d1, d2 => by
    simp at h2; subst h2
    simp only [dstsN, d2] at hn
    exact absurd (dstsN_mem (l := r) (j := i) (by simpa using h1) d1) (List.nodup_cons.1 hn).1
  | q :: r, hn, i + 1, j + 1, o, p, d, h1, h2, d1, d2 => by
    have hn' : (dstsN r).Nodup := by
      simp only [dstsN] at hn
      split at hn
      · exact (List.nodup_cons.1 hn).2
      · exact hn
    exact congrArg (· + 1) (dstsN_inj hn' (by simpa using h1) (by simpa using h2) d1 d2)

/-- slots that hold what a frame says -/
def Holds (F Hp : PH) (hs : List Value) (fr : Fr) (tm : Nat → Value) : Prop := ∀ t, Rep F Hp hs (fr.get t) (tm t)
theorem mask_holds {F Hp : PH} {hs : List Value} {tm : Nat → Value} : ∀ (l : List Oper) (fr : Fr), (∀ t, t ∉ dstsN l → Rep F Hp hs (fr.get t) (tm t)) → Holds F Hp hs (maskF l fr) tm
  | [], fr, h => fun t => h t (by simp [dstsN])
  | o :: r, fr, h => by
    rw [maskF]
    apply mask_holds r
    intro t ht
    split
    · rename_i d hd
      rw [Fr.get_put]
      split
      · exact .top _
      · rename_i hne
        refine h t ?_
        simp only [dstsN, hd]
        intro hm
        rcases List.mem_cons.1 hm with rfl | hm
        · exact hne rfl
        · exact ht hm
    · rename_i hd
      refine h t ?_
      simp only [dstsN, hd]; exact ht
theorem lay_holds {F Hp : PH} {hs : List Value} {tm : Nat → Value} {aft : Option (List Nat)} : ∀ (R : Told) (fr : Fr), Holds F Hp hs fr tm → (∀ j d av, (j, some d, av) ∈ R → (∀ l, aft = some l → j ∈ l) → Rep F Hp hs av (tm d)) → Holds F Hp hs (layF aft R fr) tm
  | [], fr, h, _ => h
  | (j, none, av) :: r, fr, h, hR => by
    have e : layF aft ((j, none, av) :: r) fr = layF aft r fr := by simp [layF]
    rw [e]
    exact lay_holds r fr h fun j d av hm => hR j d av (List.mem_cons_of_mem _ hm)
  | (j, some d, av) :: r, fr, h, hR => by
    have hp : (∀ l, aft = some l → j ∈ l) → Holds F Hp hs (fr.put d av) tm := by
      intro hl t
      rw [Fr.get_put]
      split
      · rename_i e; subst e; exact hR j _ av (List.mem_cons_self ..) hl
      · exact h t
    cases aft with
    | none =>
      show Holds F Hp hs (layF none r (fr.put d av)) tm
      exact lay_holds r _ (hp (by simp)) fun j d av hm => hR j d av (List.mem_cons_of_mem _ hm)
    | some l =>
      cases hb : hasN l j with
      | true =>
        have e : layF (some l) ((j, some d, av) :: r) fr = layF (some l) r (fr.put d av) := by simp only [layF, hb]
        rw [e]
        exact lay_holds r _ (hp (fun l' e => by cases e; exact hasN_iff.1 hb)) fun j d av hm => hR j d av (List.mem_cons_of_mem _ hm)
      | false =>
        have e : layF (some l) ((j, some d, av) :: r) fr = layF (some l) r fr := by simp only [layF, hb]
        rw [e]
        exact lay_holds r fr h fun j d av hm => hR j d av (List.mem_cons_of_mem _ hm)

/-- told better -/
def Ref (x y : AV) : Prop := ∀ F Hp hs v, Rep F Hp hs x v → Rep F Hp hs y v
/-- what is told, beside what was told first -/
structure Good (ops : Array Oper) (p : Nat) (R : Told) (O : List AV) : Prop where
  len : R.length = O.length
  ent : ∀ (i : Nat) j d av, R[i]? = some (j, d, av) → j = p + i ∧ (∃ o, ops[j]? = some o ∧ o.dst = d) ∧ ∃ x, O[i]? = some x ∧ Ref x av
theorem setT_len : ∀ (R : Told) (g : Nat) (x : AV), (setT R g x).length = R.length
  | [], _, _ => rfl
  | (j, d, av) :: r, g, x => by
    rw [setT]; split
    · rfl
    · simp [setT_len r g x]
theorem setT_get : ∀ (R : Told) (g : Nat) (x : AV) (i : Nat) e, (setT R g x)[i]? = some e → R[i]? = some e ∨ ∃ d av, R[i]? = some (g, d, av) ∧ e = (g, d, x)
  | [], g, x, i, e, h => by simp [setT] at h
  | (j, d, av) :: r, g, x, i, e, h => by
    rw [setT] at h
    split at h
    · rename_i hh
      have hh := beq_nat hh
      subst hh
      cases i with
      | zero => simp at h; exact .inr ⟨d, av, rfl, h.symm⟩
      | succ i => exact .inl (by simpa using h)
    · cases i with
      | zero => exact .inl (by simpa using h)
      | succ i =>
        rcases setT_get r g x i e (by simpa using h) with h | ⟨d', av', h, h'⟩
        · exact .inl (by simpa using h)
        · exact .inr ⟨d', av', by simpa using h, h'⟩
theorem findT_get : ∀ {R : Told} {g : Nat}, findT R g = .top ∨ ∃ (i : Nat) (d : Nat), R[i]? = some (g, some d, findT R g)
  | [], g => .inl rfl
  | (j, d, av) :: r, g => by
    cases hb : Nat.beq j g with
    | true =>
      have e := beq_nat hb
      subst e
      cases d with
      | none => left; simp only [findT, hb]
      | some d => right; exact ⟨0, d, by simp only [findT, hb]; rfl⟩
    | false =>
      have e : findT ((j, d, av) :: r) g = findT r g := by simp only [findT, hb]
      rw [e]
      rcases findT_get (R := r) (g := g) with h | ⟨i, d', h⟩
      · exact .inl h
      · exact .inr ⟨i + 1, d', by simpa using h⟩
theorem Good.set {p : Nat} {R : Told} {O : List AV} (h : Good ops p R O) {g : Nat} {x y : AV} (hr : Ref x y) (huniq : ∀ (i : Nat) d av, R[i]? = some (g, d, av) → av = x) : Good ops p (setT R g y) O where
  len := by rw [setT_len]; exact h.len
  ent i j d av hi := by
    rcases setT_get R g y i _ hi with hi | ⟨d', av', hi2, e⟩
    · exact h.ent i j d av hi
    · cases e
      obtain ⟨e1, e2, x', e3, e4⟩ := h.ent i _ _ av' hi2
      refine ⟨e1, e2, x', e3, fun F Hp hs v hv => hr F Hp hs v ?_⟩
      have := huniq i _ av' hi2
      rw [← this]
      exact e4 F Hp hs v hv
theorem Good.uniq {p : Nat} {R : Told} {O : List AV} (h : Good ops p R O) {g i i' : Nat} {d d' : Option Nat} {av av' : AV} (h1 : R[i]? = some (g, d, av)) (h2 : R[i']? = some (g, d', av')) : av = av' := by
  have e1 := (h.ent i g d av h1).1
  have e2 := (h.ent i' g d' av' h2).1
  have : i = i' := by omega
  subst this
  rw [h1] at h2; cases h2; rfl
theorem Good.snoc {p : Nat} {R : Told} {O : List AV} (h : Good ops p R O) {o : Oper} (ho : ops[p + O.length]? = some o) (av : AV) : Good ops p (R ++ [(p + O.length, o.dst, av)]) (O ++ [av]) where
  len := by simp [h.len]
  ent i j d av' hi := by
    rcases get_append_one hi with hi | ⟨e1, e2⟩
    · obtain ⟨e1, e2, x, e3, e4⟩ := h.ent i j d av' hi
      exact ⟨e1, e2, x, by rw [List.getElem?_append_left (List.getElem?_eq_some_iff.1 e3).1]; exact e3, e4⟩
    · cases e2
      rw [h.len] at e1
      subst e1
      exact ⟨rfl, ⟨o, ho, rfl⟩, av, by simp, fun F Hp hs v hv => hv⟩

/-- what those of a stretch that come before an operation told -/
def Told1 (ops : Array Oper) (p : Nat) (O : List AV) (o : Oper) (F Hp : PH) (hs : List Value) (a : Act) : Prop :=
  ∀ q ∈ aftN o, p ≤ q → ∀ oq d x, ops[q]? = some oq → oq.dst = some d → O[q - p]? = some x → Rep F Hp hs x (a.tmps.getD d undef)
/-- a slot that none of a stretch writes before a place is done -/
def Free (seg : List Oper) (i t : Nat) : Prop := ∀ o ∈ seg, o.dst = some t → i ∈ aftN o
theorem free_of {seg : List Oper} {i t : Nat} (h : t ∉ dstsN seg) : Free seg i t := by
  intro o ho hd
  obtain ⟨j, hj⟩ := List.getElem?_of_mem ho
  exact absurd (dstsN_mem hj hd) h
theorem free_early : ∀ {seg : List Oper} {i t : Nat}, t ∉ dstsN (early i seg) → Free seg i t
  | [], i, t, _ => fun o ho => by cases ho
  | o :: r, i, t, h => by
    intro o' ho' hd
    rcases List.mem_cons.1 ho' with rfl | ho'
    · cases hb : hasN (aftN o') i with
      | true => exact hasN_iff.1 hb
      | false =>
        simp only [early, hb] at h
        exact absurd hd (not_dsts h).1
    · cases hb : hasN (aftN o) i with
      | true =>
        simp only [early, hb] at h
        exact free_early h o' ho' hd
      | false =>
        simp only [early, hb] at h
        exact free_early (not_dsts h).2 o' ho' hd
/-- what one of a stretch does, whenever it may come -/
def HeadDoes (P : Program) (ops : Array Oper) (p : Nat) (fr : Fr) (hd : List Oper) (M : List Blk) (O : List AV) (i : Nat) (o : Oper) (av : AV) : Prop :=
  ∀ (w0 : Base P) F Hp hs hs' M' w (a : Act) Q (next : Act → World → Prop), (isMv o = true ∨ (Ext M hs M' hs' ∧ InvS w0 F Hp hs M w)) → InvS w0 F Hp hs' M' w → Told1 ops p O o F Hp hs a →
    (∀ t, Free hd i t → Rep F Hp hs (fr.get t) (a.tmps.getD t undef)) → (∀ Hp' w' v, Hp.le Hp' → InvS w0 F Hp' hs' M' w' → (Ext M hs M' hs' → InvS w0 F Hp hs M w → InvS w0 F Hp' hs M w') → Rep F Hp' hs av v → next (a.put o.dst v) w') → wpOp P ops Q i next a w
theorem HeadDoes.mono {p : Nat} {fr : Fr} {hd : List Oper} {M : List Blk} {O : List AV} {i : Nat} {o : Oper} {av x : AV} (hbel : ∀ q ∈ aftN o, q < p + O.length) (h : HeadDoes P ops p fr hd M O i o av) : HeadDoes P ops p fr hd M (O ++ [x]) i o av := by
  intro w0 F Hp hs hs' M' w a Q next he hi hq ht hn
  refine h w0 F Hp hs hs' M' w a Q next he hi (fun q hqa hpq oq d y h1 h2 h3 => hq q hqa hpq oq d y h1 h2 ?_) ht hn
  rw [List.getElem?_append_left (by have := hbel q hqa; omega)]; exact h3

/-- slots known better -/
def RefF (fr fr' : Fr) : Prop := ∀ t, Ref (fr.get t) (fr'.get t)
theorem evGdT_ok {p : Nat} {seg all : List Oper} (hall : all = ops.toList) {o : Oper} {R : Told} {O : List AV} {fr0 fr : Fr} (hRF : RefF fr0 fr) {yes no : Told → Fr → Prop} (hG : Good ops p R O) (h : evGdT p seg all o R fr yes no) :
    ∃ R' fr', Good ops p R' O ∧ RefF fr0 fr' ∧ ((yes R' fr' ∧ ∀ F Hp hs (a : Act), Told1 ops p O o F Hp hs a → (∀ t, t ∉ dstsN seg → Rep F Hp hs (fr0.get t) (a.tmps.getD t undef)) → Region.wanted o (yielded ops a.tmps) = true) ∨
      (no R' fr' ∧ ∀ F Hp hs (a : Act), Told1 ops p O o F Hp hs a → (∀ t, t ∉ dstsN seg → Rep F Hp hs (fr0.get t) (a.tmps.getD t undef)) → Region.wanted o (yielded ops a.tmps) = false)) := by
  unfold evGdT at h
  split at h
  · rename_i hg
    exact ⟨R, fr, hG, hRF, .inl ⟨h, fun F Hp hs a _ _ => by simp [Region.wanted, hg]⟩⟩
  · rename_i g want hg
    have hwant : ∀ {t : Nat} (a : Act) (c : Bool), (ops.toList[g]?).bind (·.dst) = some t → a.tmps.getD t undef = .bool c → Region.wanted o (yielded ops a.tmps) = (c == want) := by
      intro t a c ht hc
      simp only [Region.wanted, hg, yielded_of ht hc]
      cases c <;> cases want <;> rfl
    have hnone : ∀ {t : Nat} (a : Act) (u : Array Value), (ops.toList[g]?).bind (·.dst) = some t → a.tmps.getD t undef = .tuple u → Region.wanted o (yielded ops a.tmps) = false := by
      intro t a u ht hc
      simp only [Region.wanted, hg, yielded_of_tup ht hc]
      rfl
    split at h
    · rename_i hgin
      have hgin := hasN_iff.1 hgin
      split at h
      · rename_i hpg
        have hpg := Nat.le_of_ble_eq_true hpg
        -- the guard's own answer
        have hval : ∀ {x : AV}, findT R g = x → x ≠ .top → ∃ t, (ops.toList[g]?).bind (·.dst) = some t ∧ ∀ F Hp hs (a : Act), Told1 ops p O o F Hp hs a → Rep F Hp hs x (a.tmps.getD t undef) := by
          intro x hx hxt
          rcases findT_get (R := R) (g := g) with h' | ⟨i, t, hi⟩
          · rw [hx] at h'; exact absurd h' hxt
          · rw [hx] at hi
            obtain ⟨e0, ⟨oq, ho1, ho2⟩, y, hy1, hy2⟩ := hG.ent i g (some t) x hi
            have hb : (ops.toList[g]?).bind (·.dst) = some t := by rw [Array.getElem?_toList, ho1]; exact ho2
            exact ⟨t, hb, fun F Hp hs a hq => hy2 F Hp hs _ (hq g hgin hpg oq t y ho1 ho2 (by rw [show g - p = i by omega]; exact hy1))⟩
        have hB : ∀ {x : AV} {Y N : Told → Prop}, findT R g = x → evBT x g R Y N → ∃ R' c, Good ops p R' O ∧ (if c = true then Y R' else N R') ∧ ∀ F Hp hs v, Rep F Hp hs x v → v = .bool c := by
          intro x Y N hx hb
          unfold evBT at hb
          split at hb
          · exact ⟨R, true, hG, by simpa using hb, fun F Hp hs v hv => hv.inv_tt⟩
          · exact ⟨R, false, hG, by simpa using hb, fun F Hp hs v hv => hv.inv_ff⟩
          · rename_i c
            have huniq : ∀ (i : Nat) d av, R[i]? = some (g, d, av) → av = .val (.bool c) := by
              intro i d av hi
              rcases findT_get (R := R) (g := g) with h' | ⟨i', d', hi'⟩
              · rw [hx] at h'; cases h'
              · rw [hx] at hi'; exact hG.uniq hi hi'
            cases c with
            | true => exact ⟨_, true, hG.set (x := .val (.bool true)) (y := .tt) (fun F Hp hs v hv => by cases hv.inv_val; exact .tt) huniq, by simpa using hb.1 rfl, fun F Hp hs v hv => hv.inv_val⟩
            | false => exact ⟨_, false, hG.set (x := .val (.bool false)) (y := .ff) (fun F Hp hs v hv => by cases hv.inv_val; exact .ff) huniq, by simpa using hb.2 rfl, fun F Hp hs v hv => hv.inv_val⟩
          · exact hb.elim
        split at h
        · rename_i u hx
          obtain ⟨t, hb, hrep⟩ := hval hx (by simp)
          exact ⟨R, fr, hG, hRF, .inr ⟨h, fun F Hp hs a hq _ => hnone a u hb (hrep F Hp hs a hq).inv_val⟩⟩
        · have hne : findT R g ≠ .top := by
            intro e; rw [e] at h; simp [evBT] at h
          obtain ⟨R', c, hG', hyn, hv⟩ := hB rfl h
          obtain ⟨t, hb, hrep⟩ := hval rfl hne
          refine ⟨R', fr, hG', hRF, ?_⟩
          cases c with
          | true => exact .inl ⟨by simpa using hyn, fun F Hp hs a hq _ => by rw [hwant a true hb (hv F Hp hs _ (hrep F Hp hs a hq))]; rfl⟩
          | false => exact .inr ⟨by simpa using hyn, fun F Hp hs a hq _ => by rw [hwant a false hb (hv F Hp hs _ (hrep F Hp hs a hq))]; rfl⟩
        · have hne : findT R g ≠ .top := by
            intro e; rw [e] at h; simp [evBT] at h
          obtain ⟨R', c, hG', hyn, hv⟩ := hB rfl h
          obtain ⟨t, hb, hrep⟩ := hval rfl hne
          refine ⟨R', fr, hG', hRF, ?_⟩
          cases c with
          | true => exact .inr ⟨by simpa using hyn, fun F Hp hs a hq _ => by rw [hwant a true hb (hv F Hp hs _ (hrep F Hp hs a hq))]; rfl⟩
          | false => exact .inl ⟨by simpa using hyn, fun F Hp hs a hq _ => by rw [hwant a false hb (hv F Hp hs _ (hrep F Hp hs a hq))]; rfl⟩
      · split at h
        · rename_i t ht
          rw [hall] at ht
          split at h
          · rename_i hth
            have hth : t ∉ dstsN seg := fun hm => by rw [hasN_iff.2 hm] at hth; cases hth
            have hslot : ∀ {x : AV}, fr.get t = x → ∀ F Hp hs (a : Act), (∀ t, t ∉ dstsN seg → Rep F Hp hs (fr0.get t) (a.tmps.getD t undef)) → Rep F Hp hs x (a.tmps.getD t undef) := by
              intro x hx F Hp hs a hb
              rw [← hx]
              exact hRF t F Hp hs _ (hb t hth)
            have hput : ∀ (c : Bool), fr.get t = .val (.bool c) → RefF fr0 (fr.put t (match c with | true => .tt | false => .ff)) := by
              intro c hc s
              rw [Fr.get_put]
              split
              · rename_i e
                subst e
                intro F Hp hs v hv
                have := hRF t F Hp hs v hv
                rw [hc] at this
                cases this.inv_val
                cases c
                · exact .ff
                · exact .tt
              · exact hRF s
            split at h
            · rename_i u hx
              exact ⟨R, fr, hG, hRF, .inr ⟨h, fun F Hp hs a _ hb => hnone a u ht (hslot hx F Hp hs a hb).inv_val⟩⟩
            · rename_i hx
              exact ⟨R, fr, hG, hRF, .inl ⟨h, fun F Hp hs a _ hb => by rw [hwant a true ht (hslot hx F Hp hs a hb).inv_tt]; rfl⟩⟩
            · rename_i hx
              exact ⟨R, fr, hG, hRF, .inr ⟨h, fun F Hp hs a _ hb => by rw [hwant a true ht (hslot hx F Hp hs a hb).inv_tt]; rfl⟩⟩
            · rename_i hx
              exact ⟨R, fr, hG, hRF, .inr ⟨h, fun F Hp hs a _ hb => by rw [hwant a false ht (hslot hx F Hp hs a hb).inv_ff]; rfl⟩⟩
            · rename_i hx
              exact ⟨R, fr, hG, hRF, .inl ⟨h, fun F Hp hs a _ hb => by rw [hwant a false ht (hslot hx F Hp hs a hb).inv_ff]; rfl⟩⟩
            · rename_i c hx
              cases c with
              | true => exact ⟨R, _, hG, hput true hx, .inl ⟨h.1 rfl, fun F Hp hs a _ hb => by rw [hwant a true ht (hslot hx F Hp hs a hb).inv_val]; rfl⟩⟩
              | false => exact ⟨R, _, hG, hput false hx, .inr ⟨h.2 rfl, fun F Hp hs a _ hb => by rw [hwant a false ht (hslot hx F Hp hs a hb).inv_val]; rfl⟩⟩
            · rename_i c hx
              cases c with
              | true => exact ⟨R, _, hG, hput true hx, .inr ⟨h.1 rfl, fun F Hp hs a _ hb => by rw [hwant a true ht (hslot hx F Hp hs a hb).inv_val]; rfl⟩⟩
              | false => exact ⟨R, _, hG, hput false hx, .inl ⟨h.2 rfl, fun F Hp hs a _ hb => by rw [hwant a false ht (hslot hx F Hp hs a hb).inv_val]; rfl⟩⟩
            · exact h.elim
          · exact h.elim
        · exact h.elim
    · exact h.elim

/-- what reads a slot alone does so in whichever memory -/
def HStepM (P : Program) (o : Oper) (ρ : Operand → AV) (M : List Blk) (av : AV) : Prop :=
  ∀ (w0 : Base P) F Hp hs hs' M' w (a : Act) next Q, (isMv o = true ∨ (Ext M hs M' hs' ∧ InvS w0 F Hp hs M w)) → InvS w0 F Hp hs' M' w → (∀ x, Rep F Hp hs (ρ x) (a.eval x)) →
    (∀ Hp' w' v, Hp.le Hp' → InvS w0 F Hp' hs' M' w' → (Ext M hs M' hs' → InvS w0 F Hp hs M w → InvS w0 F Hp' hs M w') → Rep F Hp' hs av v → next (a.put o.dst v) w') → o.wp P a w next Q
theorem evH_okM (hE : EnvOk P E) {o : Oper} {ρ : Operand → AV} {M : List Blk} {K : AV → Prop} (h : evH E o.op ρ M K) : ∃ av, K av ∧ HStepM P o ρ M av := by
  by_cases hmv : isMv o = true
  · unfold isMv at hmv
    split at hmv
    · rename_i x hg hop
      rw [hop] at h
      refine ⟨ρ x, h, fun w0 F Hp hs hs' M' w a next Q _ hi hr hn => ?_⟩
      have h1 : (execOp a.eval o).run P w = .ok (.value (a.eval x)) w := by
        unfold execOp; rw [hop]; rfl
      unfold Oper.wp
      rw [h1]
      exact hn Hp w _ (PH.le.refl _) hi (fun _ h => h) (hr x)
    · rename_i x hg hop
      rw [hop] at h
      refine ⟨ρ x, h, fun w0 F Hp hs hs' M' w a next Q _ hi hr hn => ?_⟩
      have h1 : (execOp a.eval o).run P w = .ok (.value (a.eval x)) w := by
        unfold execOp; rw [hop]; rfl
      unfold Oper.wp
      rw [h1]
      exact hn Hp w _ (PH.le.refl _) hi (fun _ h => h) (hr x)
    · rename_i x i hg hop
      rw [hop] at h
      obtain ⟨av, hK, hav⟩ := evExtract_ok (show evExtract (ρ x) i K from h)
      refine ⟨av, hK, fun w0 F Hp hs hs' M' w a next Q _ hi hr hn => ?_⟩
      obtain ⟨v, h1, h2⟩ := hav P F Hp hs w _ (hr x)
      have h1 : (execOp a.eval o).run P w = .ok (.value v) w := by
        unfold execOp; rw [hop]; simp [h1]
      unfold Oper.wp
      rw [h1]
      exact hn Hp w _ (PH.le.refl _) hi (fun _ h => h) h2
    · cases hmv
  · obtain ⟨av, hK, hs⟩ := evH_ok hE h
    refine ⟨av, hK, fun w0 F Hp hs0 hs' M' w a next Q he hi hr hn => ?_⟩
    obtain ⟨he, hi0⟩ := he.resolve_left hmv
    exact hs w0 F Hp hs0 hs' M' w a next Q he hi0 hi hr fun Hp' w' v q1 q2 q3 q4 => hn Hp' w' v q1 q3 (fun _ _ => q2) q4
def HeadOr (P : Program) (ops : Array Oper) (p : Nat) (fr : Fr) (hd : List Oper) (M : List Blk) (O : List AV) (i : Nat) (o : Oper) (av : AV) : Prop :=
  (isEff o.op = true → av = .top) ∧ (isEff o.op = false → HeadDoes P ops p fr hd M O i o av)
theorem HeadOr.mono {p : Nat} {fr : Fr} {hd : List Oper} {M : List Blk} {O : List AV} {i : Nat} {o : Oper} {av x : AV} (hbel : ∀ q ∈ aftN o, q < p + O.length) (h : HeadOr P ops p fr hd M O i o av) : HeadOr P ops p fr hd M (O ++ [x]) i o av :=
  ⟨h.1, fun e => (h.2 e).mono hbel⟩
theorem evHeads_ok (hE : EnvOk P E) {all : List Oper} (hall : all = ops.toList) {p : Nat} {M : List Blk} (seg : List Oper) (m : Nat) (hm : m ≤ seg.length) (hseg : ∀ (i : Nat) o, seg[i]? = some o → ops[p + i]? = some o) (hbel : ∀ (i : Nat) o, ops[i]? = some o → ∀ q ∈ aftN o, q < i) {fr0 : Fr} :
    ∀ (r : List Oper) (R : Told) (O : List AV) (fr : Fr) (K : Told → Fr → Prop), (seg.take m).drop O.length = r → O.length ≤ m → Good ops p R O → RefF fr0 fr → (∀ (i : Nat) o av, ops[p + i]? = some o → O[i]? = some av → HeadOr P ops p fr0 seg M O (p + i) o av) →
      evHeads E p seg all M r (p + O.length) R fr K → ∃ R' O' fr', K R' fr' ∧ O'.length = m ∧ Good ops p R' O' ∧ RefF fr0 fr' ∧ ∀ (i : Nat) o av, ops[p + i]? = some o → O'[i]? = some av → HeadOr P ops p fr0 seg M O' (p + i) o av
  | [], R, O, fr, K, hd, hle, hG, hRF, hH, h => by
    refine ⟨R, O, fr, h, ?_, hG, hRF, hH⟩
    have := congrArg List.length hd
    simp at this; omega
  | o :: r, R, O, fr, K, hd, hle, hG, hRF, hH, h => by
    have hlt : O.length < m := by
      have := congrArg List.length hd
      simp at this; omega
    have hho : seg[O.length]? = some o := by
      have := congrArg (fun l => l[0]?) hd
      simp only [List.getElem?_drop, List.getElem?_take] at this
      rw [if_pos (by omega)] at this
      simpa using this
    have hoo : ops[p + O.length]? = some o := hseg _ _ hho
    have hd' : ∀ x : AV, (seg.take m).drop (O ++ [x]).length = r := by
      intro x
      have := congrArg (List.drop 1) hd
      simpa [List.drop_drop, Nat.add_comm] using this
    have hgrow : ∀ (av : AV), HeadOr P ops p fr0 seg M O (p + O.length) o av → ∀ (i : Nat) o' av', ops[p + i]? = some o' → (O ++ [av])[i]? = some av' → HeadOr P ops p fr0 seg M (O ++ [av]) (p + i) o' av' := by
      intro av hav i o' av' h1 h2
      rcases get_append_one h2 with h2 | ⟨rfl, rfl⟩
      · have hi := (List.getElem?_eq_some_iff.1 h2).1
        refine (hH i o' av' h1 h2).mono fun q hq => ?_
        have := hbel _ o' h1 q hq
        omega
      · rw [hoo] at h1; cases h1
        exact hav.mono fun q hq => hbel _ o hoo q hq
    simp only [evHeads] at h
    split at h
    · rename_i hef
      have hav : HeadOr P ops p fr0 seg M O (p + O.length) o .top := ⟨fun _ => rfl, fun e => by rw [hef] at e; cases e⟩
      exact evHeads_ok hE hall seg m hm hseg hbel r _ _ fr K (hd' .top) (by simp; omega) (hG.snoc hoo .top) hRF (hgrow _ hav) (by simpa [Nat.add_assoc] using h)
    rename_i hef
    obtain ⟨R', fr', hG', hRF', ⟨hy, hw⟩ | ⟨hy, hw⟩⟩ := evGdT_ok hall hRF hG h
    · obtain ⟨av, hK, hstepA⟩ := evH_okM hE hy
      have hav : HeadDoes P ops p fr0 seg M O (p + O.length) o av := by
        intro w0 F Hp hs' hs2 M' w a Q next he hi hq ht hn
        simp only [wpOp, hoo, hw F Hp hs' a hq (fun t hth => ht t (free_of hth)), if_true]
        refine .inl (hstepA w0 F Hp hs' hs2 M' w a next Q he hi (evO_rep ?_) hn)
        refine lay_holds R' _ (mask_holds (early (p + O.length) seg) fr' fun t hth => hRF' t F Hp hs' _ (ht t (free_early hth))) fun j d av hm hj => ?_
        obtain ⟨i, hi'⟩ := List.getElem?_of_mem hm
        obtain ⟨e0, ⟨oq, e1, e2⟩, x, e3, e4⟩ := hG'.ent i j (some d) av hi'
        exact e4 F Hp hs' _ (hq j (hj _ rfl) (by omega) oq d x e1 e2 (by rw [show j - p = i by omega]; exact e3))
      have := hG'.snoc hoo av
      exact evHeads_ok hE hall seg m hm hseg hbel r _ _ fr' K (hd' av) (by simp; omega) this hRF' (hgrow av ⟨fun e => (by rw [hef] at e; cases e), fun _ => hav⟩) (by simpa [Nat.add_assoc] using hK)
    · have hav : HeadDoes P ops p fr0 seg M O (p + O.length) o (.val undef) := by
        intro w0 F Hp hs' hs2 M' w a Q next he hi hq ht hn
        simp only [wpOp, hoo, hw F Hp hs' a hq (fun t hth => ht t (free_of hth)), Bool.false_eq_true, if_false]
        exact hn Hp w undef (PH.le.refl _) hi (fun _ h => h) (.val _)
      have := hG'.snoc hoo (.val undef)
      exact evHeads_ok hE hall seg m hm hseg hbel r _ _ fr' K (hd' _) (by simp; omega) this hRF' (hgrow _ ⟨fun e => (by rw [hef] at e; cases e), fun _ => hav⟩) (by simpa [Nat.add_assoc] using hy)
end
end Go.Sx
end
section
namespace Go.Sx
open Go
variable {P : Program} {E : Env} {n k : Nat}

def RunAny (P : Program) (ops : Array Oper) (K : Act → World → Prop) (a : Act) (w : World) : Prop :=
  ∀ Q : Exit → Act → World → Prop, (∀ a w, K a w → Q .normal a w) → wpAny P .any ops Q ops.size (Array.replicate ops.size false) a w
def RunFrom (P : Program) (ops : Array Oper) (p : Nat) (K : Act → World → Prop) (a : Act) (w : World) : Prop :=
  ∀ Q : Exit → Act → World → Prop, (∀ a w, K a w → Q .normal a w) → WA P ops Q p a w
theorem dstsN_append : ∀ (l r : List Oper), dstsN (l ++ r) = dstsN l ++ dstsN r
  | [], r => rfl
  | o :: l, r => by
    have ih := dstsN_append l r
    cases hd : o.dst with
    | none => simp only [List.cons_append, dstsN, hd, ih]
    | some d => simp only [List.cons_append, dstsN, hd, ih]
theorem anyGe_ok {b : Nat} : ∀ {l : List Nat}, anyGe b l = true → ∃ q ∈ l, b ≤ q
  | [], h => by simp [anyGe] at h
  | q :: r, h => by
    simp only [anyGe] at h
    split at h
    · rename_i hh; exact ⟨q, List.mem_cons_self .., Nat.le_of_ble_eq_true hh⟩
    · obtain ⟨x, h1, h2⟩ := anyGe_ok h
      exact ⟨x, List.mem_cons_of_mem _ h1, h2⟩
theorem hasAft_ok {q : Nat} : ∀ {l : List Oper}, hasAft q l = true → ∃ (j : Nat) (o : Oper), l[j]? = some o ∧ q ∈ aftN o
  | [], h => by simp [hasAft] at h
  | o :: r, h => by
    simp only [hasAft] at h
    split at h
    · rename_i hh; exact ⟨0, o, rfl, hasN_iff.1 hh⟩
    · obtain ⟨j, p, h1, h2⟩ := hasAft_ok h
      exact ⟨j + 1, p, by simpa using h1, h2⟩
theorem sinksIn_ok {pre : List Oper} {l : List Nat} : ∀ {b : Nat}, sinksIn pre l b = true → ∀ q < b, hasAft q pre = true ∨ q ∈ l
  | 0, _, q, h => by omega
  | b + 1, h, q, hq => by
    simp only [sinksIn] at h
    by_cases e : q = b
    · subst e
      split at h
      · rename_i hh; exact .inl hh
      · split at h
        · rename_i hh; exact .inr (hasN_iff.1 hh)
        · cases h
    · split at h
      · exact sinksIn_ok h q (by omega)
      · split at h
        · exact sinksIn_ok h q (by omega)
        · cases h
theorem partB_ok {pre : List Oper} {b : Nat} : ∀ {l : List Oper}, partB pre b l = true → ∀ (m : Nat) o, l[m]? = some o → (∃ q ∈ aftN o, b ≤ q) ∨ ∀ q < b, hasAft q pre = true ∨ q ∈ aftN o
  | [], _, m, o, h => by simp at h
  | p :: r, h, m, o, hm => by
    simp only [partB] at h
    have ih : partB pre b r = true → ∀ (m : Nat) o, r[m]? = some o → (∃ q ∈ aftN o, b ≤ q) ∨ ∀ q < b, hasAft q pre = true ∨ q ∈ aftN o := fun h => partB_ok h
    split at h
    · rename_i hh
      cases m with
      | zero => simp at hm; subst hm; exact .inl (anyGe_ok hh)
      | succ m => exact ih h m o (by simpa using hm)
    · split at h
      · rename_i hh
        cases m with
        | zero => simp at hm; subst hm; exact .inr (sinksIn_ok hh)
        | succ m => exact ih h m o (by simpa using hm)
      · cases h
theorem parted_of {ops : Array Oper} (hbel : ∀ (i : Nat) o, ops[i]? = some o → ∀ q ∈ aftN o, q < i) {b : Nat} (h : partB (ops.toList.take b) b (ops.toList.drop b) = true) : Parted ops b := by
  intro i
  induction i using Nat.strongRecOn with
  | _ i ih =>
    intro o hi ho L hcl hq
    have hd : (ops.toList.drop b)[i - b]? = some o := by
      rw [List.getElem?_drop, show b + (i - b) = i by omega, Array.getElem?_toList]; exact ho
    rcases partB_ok h (i - b) o hd with ⟨j, hj, hbj⟩ | hs
    · have hji := hbel i o ho j hj
      have hjs : j < ops.size := by have := (Array.getElem?_eq_some_iff.1 ho).1; omega
      have hoj := Array.getElem?_eq_getElem hjs
      exact ih j hji _ hbj hoj L hcl (hcl j _ hoj (hq j hj))
    · -- downwards
      have key : ∀ (m q : Nat), b - q = m → q < b → L q := by
        intro m
        induction m using Nat.strongRecOn with
        | _ m ihm =>
          intro q hm hqb
          rcases hs q hqb with h1 | h1
          · obtain ⟨j, oj, hj1, hj2⟩ := hasAft_ok h1
            rw [List.getElem?_take] at hj1
            split at hj1
            · rename_i hjb
              rw [Array.getElem?_toList] at hj1
              have := hbel j oj hj1 q hj2
              exact hcl j oj hj1 (ihm (b - j) (by omega) j rfl hjb) q hj2
            · cases hj1
          · exact hq q h1
      exact fun q hqb => key _ q rfl hqb
theorem drop_cut {α : Type} (l : List α) {p b : Nat} (h : p ≤ b) : l.drop p = (l.drop p).take (b - p) ++ l.drop b := by
  have := (List.take_append_drop (b - p) (l.drop p)).symm
  rwa [List.drop_drop, show p + (b - p) = b by omega] at this
theorem effLast_ok {all : List Oper} {p b : Nat} {e : Oper} (h : effLast all p b = some e) : all[b - 1]? = some e ∧ e.guard = none ∧ (isAl e.op = true ∨ ancOk (ancL all (b - 1) (aftN e)) p ((all.drop p).take (b - 1 - p)) = true) := by
  unfold effLast at h
  split at h
  · rename_i e' he
    split at h
    · rename_i h1 h2 h3
      cases h
      exact ⟨he, h1, .inl h3⟩
    · rename_i h1 h2 h3 h4
      cases h
      exact ⟨he, h1, .inr h4⟩
    · cases h
  · cases h
/-- an operation that turns what is owned; where it only makes a block, the others stay as they are -/
def StepOkX (P : Program) (o : Oper) (ρ : Operand → AV) (M : List Blk) (av : AV) (M' : List Blk) : Prop :=
  ∀ (w0 : Base P) F Hp hs w (a : Act) next Q, InvS w0 F Hp hs M w → (∀ x, Rep F Hp hs (ρ x) (a.eval x)) →
    (∀ Hp' ex w' v, Hp.le Hp' → InvS w0 F Hp' (hs ++ ex) M' w' → (isAl o.op = true → Ext M hs M' (hs ++ ex) ∧ InvS w0 F Hp' hs M w') → Rep F Hp' (hs ++ ex) av v → next (a.put o.dst v) w') → o.wp P a w next Q
theorem evW_okX (hE : EnvOk P E) {o : Oper} {ρ : Operand → AV} {M : List Blk} {K : AV → List Blk → Prop} (h : evW E o.op ρ M K) : ∃ av M', K av M' ∧ StepOkX P o ρ M av M' := by
  cases hal : isAl o.op with
  | false =>
    obtain ⟨av, M', hK, hs⟩ := evW_ok hE h
    exact ⟨av, M', hK, fun w0 F Hp hs0 w a next Q hi hr hn => hs w0 F Hp hs0 w a next Q hi hr fun Hp' ex w' v q1 q2 q3 => hn Hp' ex w' v q1 q2 (fun e => by rw [hal] at e; cases e) q3⟩
  | true =>
    obtain ⟨dst, op, type, pos, after, guard⟩ := o
    simp only at h hal
    unfold isAl at hal
    split at hal
    · rename_i t
      obtain ⟨av, M', hK, ⟨T, hT⟩, hr⟩ := evAlloc_okX hE.ty h
      refine ⟨av, M', hK, fun w0 F Hp hs w a next Q hi hv hn => ?_⟩
      obtain ⟨v, ex, w', h1, h2, h3, h4⟩ := hr w0 F Hp hs w hi
      have hext : Ext M hs M' (hs ++ ex) := ⟨T, ex, hT, rfl, hi.len⟩
      unfold Oper.wp
      have hrun : (execOp a.eval ⟨dst, .alloc t, type, pos, after, guard⟩).run P w = .ok (.value v) w' := by simp [execOp, h1]
      rw [hrun]
      refine hn Hp ex w' v (PH.le.refl _) h2 (fun _ => ⟨hext, hi.keep hext h2 (PH.le.refl _) fun n blk u b g1 g2 g3 g4 => ?_⟩) h3
      obtain ⟨x, hx⟩ := (hi.blk n blk u g1 g3).id g4 g2
      exact h4 b (Array.getElem?_eq_some_iff.1 hx).1
    · cases hal
theorem ancOk_get {an : List Nat} : ∀ {l : List Oper} {i : Nat}, ancOk an i l = true → ∀ {j : Nat} {o : Oper}, l[j]? = some o → isMv o = true ∨ hasN an (i + j) = true
  | [], _, _, j, o, h => by simp at h
  | x :: r, i, hh, j, o, h => by
    simp only [ancOk] at hh
    cases j with
    | zero =>
      simp at h; subst h
      cases h1 : isMv x with
      | true => exact .inl rfl
      | false =>
        cases h2 : hasN an i with
        | true => exact .inr rfl
        | false => rw [h1, h2] at hh; cases hh
    | succ j =>
      have hr : ancOk an (i + 1) r = true := by
        cases h1 : isMv x <;> cases h2 : hasN an i <;> rw [h1, h2] at hh <;> first | exact hh | cases hh
      have := ancOk_get hr (j := j) (o := o) (by simpa using h)
      rwa [show i + (j + 1) = i + 1 + j by omega]
theorem ancL_ok {all : List Oper} {L : Nat → Prop} : ∀ {m : Nat} {s : List Nat}, (∀ (j : Nat) o, j < m → all[j]? = some o → L j → ∀ q ∈ aftN o, L q) → (∀ q ∈ s, L q) → ∀ {i : Nat}, i ∈ ancL all m s → L i
  | 0, s, _, hs, i, hi => hs i hi
  | m + 1, s, hc, hs, i, hi => by
    simp only [ancL] at hi
    split at hi
    · rename_i hm
      split at hi
      · rename_i o ho
        refine ancL_ok (fun j o hj => hc j o (by omega)) (fun q hq => ?_) hi
        rcases List.mem_append.1 hq with hq | hq
        · exact hc m o (by omega) ho (hs m (hasN_iff.1 hm)) q hq
        · exact hs q hq
      · exact ancL_ok (fun j o hj => hc j o (by omega)) hs hi
    · exact ancL_ok (fun j o hj => hc j o (by omega)) hs hi
theorem noEff_get : ∀ {l : List Oper}, noEff l = true → ∀ {j : Nat} {o : Oper}, l[j]? = some o → isEff o.op = false
  | [], _, j, o, h => by simp at h
  | x :: r, hh, j, o, h => by
    simp only [noEff] at hh
    split at hh
    · cases hh
    · rename_i hx
      cases j with
      | zero => simp at h; subst h; exact hx
      | succ j => exact noEff_get hh (j := j) (by simpa using h)
theorem effIx_get : ∀ {l : List Oper} {p : Nat}, (∀ x ∈ effIx l p, (∃ j, x.1 = p + j ∧ l[j]? = some x.2) ∧ isEff x.2.op = true) ∧ ∀ {j : Nat} {o : Oper}, l[j]? = some o → isEff o.op = true → (p + j, o) ∈ effIx l p
  | [], p => ⟨fun x h => by simp [effIx] at h, fun h => by simp at h⟩
  | x :: r, p => by
    have ih := @effIx_get r (p + 1)
    constructor
    · intro y hy
      simp only [effIx] at hy
      split at hy
      · rcases List.mem_cons.1 hy with rfl | hy
        · rename_i hx
          exact ⟨⟨0, by simp, rfl⟩, hx⟩
        · obtain ⟨⟨j, h1, h2⟩, h3⟩ := ih.1 y hy
          exact ⟨⟨j + 1, by omega, by simpa using h2⟩, h3⟩
      · obtain ⟨⟨j, h1, h2⟩, h3⟩ := ih.1 y hy
        exact ⟨⟨j + 1, by omega, by simpa using h2⟩, h3⟩
    · intro j o h he
      simp only [effIx]
      cases j with
      | zero =>
        simp at h; subst h
        rw [he]; exact List.mem_cons_self ..
      | succ j =>
        have := ih.2 (j := j) (o := o) (by simpa using h) he
        rw [show p + (j + 1) = p + 1 + j by omega]
        split
        · exact List.mem_cons_of_mem _ this
        · exact this
theorem anc2_get {an : List Nat} {c : Nat} : ∀ {l : List Oper} {i : Nat}, anc2 an c i l = true → ∀ {j : Nat} {o : Oper}, l[j]? = some o → i + j = c ∨ isMv o = true ∨ hasN an (i + j) = true
  | [], _, _, j, o, h => by simp at h
  | x :: r, i, hh, j, o, h => by
    simp only [anc2] at hh
    cases j with
    | zero =>
      simp at h; subst h
      cases h0 : Nat.beq i c with
      | true => exact .inl (beq_nat h0)
      | false =>
        cases h1 : isMv x with
        | true => exact .inr (.inl rfl)
        | false =>
          cases h2 : hasN an i with
          | true => exact .inr (.inr rfl)
          | false => rw [h0, h1, h2] at hh; cases hh
    | succ j =>
      have hr : anc2 an c (i + 1) r = true := by
        cases h0 : Nat.beq i c <;> cases h1 : isMv x <;> cases h2 : hasN an i <;> rw [h0, h1, h2] at hh <;> first | exact hh | cases hh
      have := anc2_get hr (j := j) (o := o) (by simpa using h)
      rwa [show i + (j + 1) = i + 1 + j by omega]
theorem twoChk_ok {all seg : List Oper} {p q c d0 q' c' : Nat} {oa e oa' e' : Oper} (h : twoChk all seg p q' oa' c' e' = some (q, oa, d0, c, e)) : q' = q ∧ oa' = oa ∧ c' = c ∧ e' = e ∧ oa.guard = none ∧ e.guard = none ∧ oa.dst = some d0 ∧ anc2 (ancL all c (aftN e)) c p seg = true := by
  unfold twoChk at h
  split at h
  · rename_i h1 h2 h3 h4
    cases h
    exact ⟨rfl, rfl, rfl, rfl, h1, h2, h3, h4⟩
  · cases h
theorem twoEff_ok {all seg : List Oper} {p q c d0 : Nat} {oa e : Oper} (h : twoEff all seg p = some (q, oa, d0, c, e)) :
    (∃ j, q = p + j ∧ seg[j]? = some oa) ∧ (∃ j, c = p + j ∧ seg[j]? = some e) ∧ isAl oa.op = true ∧ isAl e.op = false ∧ oa.guard = none ∧ e.guard = none ∧ oa.dst = some d0 ∧ anc2 (ancL all c (aftN e)) c p seg = true ∧
      (∀ {j : Nat} {o : Oper}, seg[j]? = some o → p + j ≠ q → p + j ≠ c → isEff o.op = false) ∧ isEff e.op = true := by
  unfold twoEff at h
  split at h
  · rename_i i1 o1 i2 o2 hl
    have hg := @effIx_get seg p
    rw [hl] at hg
    obtain ⟨g1, g2⟩ := hg
    have a1 := g1 (i1, o1) (by simp)
    have a2 := g1 (i2, o2) (by simp)
    have key : ∀ {j : Nat} {o : Oper}, seg[j]? = some o → p + j ≠ i1 → p + j ≠ i2 → isEff o.op = false := by
      intro j o ho h1 h2
      cases he : isEff o.op with
      | false => rfl
      | true =>
        have := g2 ho he
        simp at this
        rcases this with ⟨h, _⟩ | ⟨h, _⟩
        · exact absurd h h1
        · exact absurd h h2
    split at h
    · rename_i e1 e2
      obtain ⟨rfl, rfl, rfl, rfl, k1, k2, k3, k4⟩ := twoChk_ok h
      exact ⟨a1.1, a2.1, e1, e2, k1, k2, k3, k4, key, a2.2⟩
    · rename_i e1 e2
      obtain ⟨rfl, rfl, rfl, rfl, k1, k2, k3, k4⟩ := twoChk_ok h
      exact ⟨a2.1, a1.1, e2, e1, k1, k2, k3, k4, (fun ho h1 h2 => key ho h2 h1), a1.2⟩
    · cases h
  · cases h
theorem HL.len {a b : List Value} (h : HL a b) : a.length ≤ b.length := by
  cases hn : a.length with
  | zero => omega
  | succ m =>
    have : a[m]? = some (a[m]'(by omega)) := List.getElem?_eq_getElem _
    have := (List.getElem?_eq_some_iff.1 (h m _ this)).1
    omega
theorem put_self {a : Act} {d : Nat} {v : Value} (h : a.tmps.getD d undef = v) : a.put (some d) v = a := by
  have : a.tmps.setIfInBounds d v = a.tmps := by
    apply Array.ext
    · simp
    · intro i h1 h2
      rw [Array.getElem_setIfInBounds]
      · split
        · rename_i e
          subst e
          rw [← h]
          simp [Array.getD, h2]
        · rfl
  simp only [Act.put, this]
theorem evSegs_ok (hE : EnvOk P E) {fz : List Nat} {ops : Array Oper} (hbel : ∀ (i : Nat) o, ops[i]? = some o → ∀ q ∈ aftN o, q < i) :
    ∀ (bs : List Nat) (p : Nat) {fr : Fr} {M : List Blk} {K : Fr → List Blk → Prop}, segsOk n ops.toList bs p = true → evSegs E n fz ops.toList bs p fr M K →
      ∃ fr' M', K fr' M' ∧ GoesO P n k (dstsN (ops.toList.drop p)) (RunFrom P ops p) fr M fr' M'
  | [], p, fr, M, K, hok, h => by
    simp only [evSegs] at h
    simp only [segsOk] at hok
    have hp := beq_nat hok
    refine ⟨fr, M, h, fun w0 F Hp hs w a K hst hk Q hq => ?_⟩
    have : p = ops.size := by simpa using hp
    subst this
    exact WA.fin (hq _ _ (hk Hp hs w a (PH.le.refl _) (HL.refl _) hst (fun _ _ => rfl)))
  | b :: bs, p, fr, M, K, hok, h => by
    simp only [evSegs] at h
    simp only [segsOk] at hok
    split at hok
    · rename_i c1 c2 c3 c4 c5
      have hpb := Nat.le_of_ble_eq_true c1
      have hbn : b ≤ ops.size := by have := Nat.le_of_ble_eq_true c2; simpa using this
      have hpart := parted_of hbel c3
      split at h
      · rename_i o hb1 ho
        have hb1 := beq_nat hb1
        subst hb1
        rw [Array.getElem?_toList] at ho
        have hdr : ops.toList.drop p = o :: ops.toList.drop (p + 1) := by
          have hlt := (Array.getElem?_eq_some_iff.1 ho).1
          have := List.drop_eq_getElem_cons (l := ops.toList) (i := p) (by simpa using hlt)
          rw [this]
          congr 1
          have e : ops.toList[p]? = some o := by rw [Array.getElem?_toList]; exact ho
          rw [List.getElem?_eq_getElem (by simpa using hlt)] at e
          exact Option.some.inj e
        obtain ⟨fr1, ⟨hy, hw⟩ | ⟨hy, hw⟩⟩ := evGd_ok (P := P) (n := n) (k := k) h
        · obtain ⟨av, M1, h2, hstep⟩ := evW_ok hE hy
          obtain ⟨fr2, M2, h3, hput⟩ := evPut_ok (P := P) (n := n) (k := k) h2
          obtain ⟨fr3, M3, hK, hgo⟩ := evSegs_ok hE hbel bs (p + 1) hok h3
          refine ⟨fr3, M3, hK, fun w0 F Hp hs w a K hst hk Q hq => ?_⟩
          obtain ⟨hst1, hwant⟩ := hw w0 F Hp hs w a hst
          refine WA.one p (by omega) hpart hbel ?_
          simp only [wpOp, ho, hwant, if_true]
          refine .inl (hst1.step hstep hput fun Hp' hs' w' v hle hl hst' => ?_)
          exact hgo w0 F Hp' hs' w' _ _ hst' (fun Hp'' hs'' w'' a'' hle' hl' hst'' hsame => hk Hp'' hs'' w'' a'' (hle.trans hle') (hl.trans hl') hst''
            (fun t ht => by rw [hdr] at ht; obtain ⟨q1, q2⟩ := not_dsts ht; rw [hsame t q2, put_other q1])) Q hq
        · obtain ⟨fr2, M2, h3, hput⟩ := evPut_ok (P := P) (n := n) (k := k) hy
          obtain ⟨fr3, M3, hK, hgo⟩ := evSegs_ok hE hbel bs (p + 1) hok h3
          refine ⟨fr3, M3, hK, fun w0 F Hp hs w a K hst hk Q hq => ?_⟩
          obtain ⟨hst1, hwant⟩ := hw w0 F Hp hs w a hst
          refine WA.one p (by omega) hpart hbel ?_
          simp only [wpOp, ho, hwant, Bool.false_eq_true, if_false]
          obtain ⟨Hp', hle, hst'⟩ := hput w0 F Hp hs w a undef hst1 (.val _)
          exact hgo w0 F Hp' hs w _ _ hst' (fun Hp'' hs'' w'' a'' hle' hl' hst'' hsame => hk Hp'' hs'' w'' a'' (hle.trans hle') hl' hst''
            (fun t ht => by rw [hdr] at ht; obtain ⟨q1, q2⟩ := not_dsts ht; rw [hsame t q2, put_other q1])) Q hq
      · split at h
        · rename_i q oa d0 c e htwo
          obtain ⟨⟨jq, hq1, hq2⟩, ⟨jc, hc1, hc2⟩, hal, hnal, hga, hge, hda, hanc, hpure, hefe⟩ := twoEff_ok htwo
          generalize hsegd : (ops.toList.drop p).take (b - p) = seg at h c4 c5 hq2 hc2 hanc hpure
          have hnd := ndN_ok c4
          have hdn := below_ok c5
          have hseglen : seg.length = b - p := by rw [← hsegd]; simp; omega
          have hseg : ∀ (i : Nat) o, seg[i]? = some o → ops[p + i]? = some o := by
            intro i o ho
            rw [← hsegd, List.getElem?_take] at ho
            split at ho
            · rw [List.getElem?_drop, Array.getElem?_toList] at ho; exact ho
            · cases ho
          have hseg' : ∀ {j : Nat} {o : Oper}, p ≤ j → j < b → ops[j]? = some o → seg[j - p]? = some o := by
            intro j o h1 h2 ho
            rw [← hsegd, List.getElem?_take, if_pos (by omega), List.getElem?_drop, Array.getElem?_toList, show p + (j - p) = j by omega]; exact ho
          have hdr : ops.toList.drop p = seg ++ ops.toList.drop b := by rw [← hsegd]; exact drop_cut _ (by omega)
          have hoq : ops[q]? = some oa := by rw [hq1]; exact hseg _ _ hq2
          have hoc : ops[c]? = some e := by rw [hc1]; exact hseg _ _ hc2
          have hqb : p ≤ q ∧ q < b := by have := (List.getElem?_eq_some_iff.1 hq2).1; omega
          have hcb : p ≤ c ∧ c < b := by have := (List.getElem?_eq_some_iff.1 hc2).1; omega
          have hqc : q ≠ c := by
            intro e'
            rw [e', hoc] at hoq
            cases hoq
            rw [hal] at hnal; cases hnal
          obtain ⟨R, O, fr1, hK, hOl, hG, hRF, hH⟩ := evHeads_ok hE rfl seg seg.length (Nat.le_refl _) hseg hbel (fr0 := fr) seg [] [] fr _ (by simp) (by simp) ⟨rfl, fun i j d av h => by simp at h⟩ (fun t F Hp hs v hv => hv) (fun i o av _ h => by simp at h) (by simpa using h)
          obtain ⟨av0, M0, hK0, hstepA⟩ := evW_okX hE hK
          obtain ⟨av, M1, h2, hstep⟩ := evW_ok hE hK0
          obtain ⟨fr2, M2, h3, hput⟩ := evPut_ok (P := P) (n := n) (k := k) h2
          obtain ⟨fr', M', hK', hgo⟩ := evSegs_ok hE hbel bs b hok h3
          refine ⟨fr', M', hK', fun w0 F Hp hs w a K hst hk Q hq => ?_⟩
          -- the one that is made comes ahead of the one that turns
          have hLq : ∀ (L : Nat → Prop), (∀ j o, j < b → ops[j]? = some o → L j → ∀ q ∈ aftN o, L q) → (∀ q ∈ aftN e, L q) → ∀ {i : Nat} {o : Oper}, p ≤ i → i < b → ops[i]? = some o → i ≠ c → isMv o = true ∨ L i := by
            intro L hcl he' i o h1 h2 ho hic
            have := anc2_get hanc (j := i - p) (o := o) (hseg' h1 h2 ho)
            rw [show p + (i - p) = i by omega] at this
            rcases this with h | h | h
            · exact absurd h hic
            · exact .inl h
            · exact .inr (ancL_ok (L := L) (fun j oj hj hoj hl => hcl j oj (by omega) (by rw [← Array.getElem?_toList]; exact hoj) hl) he' (hasN_iff.1 h))
          have hmvA : isMv oa = false := by
            unfold isMv; unfold isAl at hal
            split at hal
            · rename_i t heq
              rw [hga, heq]
            · cases hal
          refine WA.seg p b (by omega) hbn hpart hbel (J := fun L a' w' => ∃ Hp' hs' Mx, Hp.le Hp' ∧ HL hs hs' ∧ InvS w0 F Hp' hs' Mx w' ∧ (¬ L q → hs' = hs ∧ Mx = M) ∧
            (L q → Rep F Hp' hs' av0 (a'.tmps.getD d0 undef) ∧ (¬ L c → Mx = M0 ∧ Ext M hs M0 hs' ∧ InvS w0 F Hp' hs M w')) ∧
            (L c → L q ∧ Mx = M1 ∧ ∃ v, Rep F Hp' hs' av v ∧ ∀ d, e.dst = some d → a'.tmps.getD d undef = v) ∧ a'.defers = [] ∧ a'.tmps.size = n ∧
            (∀ j o d x, p ≤ j → j < b → L j → ops[j]? = some o → o.dst = some d → O[j - p]? = some x → Rep F Hp' hs x (a'.tmps.getD d undef)) ∧
            (∀ t, (∀ j o, p ≤ j → j < b → L j → ops[j]? = some o → o.dst ≠ some t) → Rep F Hp' hs (fr.get t) (a'.tmps.getD t undef)) ∧ (∀ t, t ∉ dstsN seg → a'.tmps.getD t undef = a.tmps.getD t undef) ∧ (∀ j o, j < b → ops[j]? = some o → L j → ∀ q ∈ aftN o, L q)) ?_ ?_ ?_ ?_
          · rintro L L' a w hL ⟨Hp', hs', Mx, q1, q2, q3, q4, q5, q6, q7, q8, q9, q10, q11, q12⟩
            have hqL := hL q hqb.2
            have hcL := hL c hcb.2
            exact ⟨Hp', hs', Mx, q1, q2, q3, fun hn => q4 fun hl => hn (hqL.1 hl), fun hl => ⟨(q5 (hqL.2 hl)).1, fun hn => (q5 (hqL.2 hl)).2 fun hl => hn (hcL.1 hl)⟩, fun hl => ⟨hqL.1 (q6 (hcL.2 hl)).1, (q6 (hcL.2 hl)).2⟩, q7, q8, fun j o d x hpj hj hl => q9 j o d x hpj hj ((hL j (by omega)).2 hl), fun t ht => q10 t fun j o hpj hj hl => ht j o hpj hj ((hL j hj).1 hl), q11,
              fun j o hj ho hl q hq => (hL q (by have := hbel j o ho q hq; omega)).1 (q12 j o hj ho ((hL j hj).2 hl) q hq)⟩
          · rintro i o L a1 w1 hpi hih ho hnl hq' ⟨Hp', hs', Mx, q1, q2, q3, q4, q5, q6, q7, q8, q9, q10, q11, q12⟩ K1 hK1
            have hfree : ∀ t, Free seg i t → Rep F Hp' hs (fr.get t) (a1.tmps.getD t undef) := fun t hfr => q10 t fun j oj hpj hj hl hoj hd => hnl (q12 j oj hj hoj hl i (hfr oj (List.mem_of_getElem? (hseg' hpj hj hoj)) hd))
            have hseen : ∀ (a2 : Act) v, a2 = a1.put o.dst v → (∀ t, t ∉ dstsN seg → a2.tmps.getD t undef = a.tmps.getD t undef) := by
              rintro a2 v rfl t ht
              rw [put_other (fun e => ht (dstsN_mem (hseg' hpi hih ho) e))]
              exact q11 t ht
            have hclos : ∀ j oj, j < b → ops[j]? = some oj → (j = i ∨ L j) → ∀ q ∈ aftN oj, q = i ∨ L q := by
              rintro j oj hj hoj (rfl | hl) q hq
              · rw [ho] at hoj; cases hoj; exact .inr (hq' q hq)
              · exact .inr (q12 j oj hj hoj hl q hq)
            have hdput : ∀ v, (a1.put o.dst v).defers = [] := fun v => by
              cases hdst : o.dst with
              | none => simpa [Act.put] using q7
              | some d => simpa [Act.put] using q7
            have hsput : ∀ v, (a1.put o.dst v).tmps.size = n := fun v => by
              cases hdst : o.dst with
              | none => simpa [Act.put] using q8
              | some d => simpa [Act.put] using q8
            have hother : ∀ {j : Nat} {oj : Oper} {d : Nat} (v : Value), p ≤ j → j < b → L j → ops[j]? = some oj → oj.dst = some d → (a1.put o.dst v).tmps.getD d undef = a1.tmps.getD d undef := by
              intro j oj d v hpj hj hl hoj hd
              refine put_other fun e => ?_
              have := dstsN_inj hnd (hseg' hpi hih ho) (hseg' hpj hj hoj) e hd
              have : i = j := by omega
              subst this
              exact hnl hl
            have hself : ∀ {d : Nat} (v : Value), o.dst = some d → (a1.put o.dst v).tmps.getD d undef = v := by
              intro d v hd
              rw [hd, getD_put (by rw [q8]; exact hdn d (dstsN_mem (hseg' hpi hih ho) hd)), if_pos rfl]
            have hsnap : ∀ {x : AV}, O[i - p]? = some x → isEff o.op = true → x = .top := fun hx he => (hH (i - p) o _ (by rw [show p + (i - p) = i by omega]; exact ho) hx).1 he
            by_cases hie : i = c
            · subst hie
              rw [hoc] at ho; cases ho
              have hLa : L q := by
                rcases hLq L q12 hq' hqb.1 hqb.2 hoq hqc with h | h
                · rw [hmvA] at h; cases h
                · exact h
              obtain ⟨rfl, hext, _⟩ := (q5 hLa).2 hnl
              have hwant : Region.wanted e (yielded ops a1.tmps) = true := by simp [Region.wanted, hge]
              simp only [wpOp, hoc, hwant, if_true]
              have hup : ∀ {x : AV} {v : Value}, Rep F Hp' hs x v → Rep F Hp' hs' x v := fun h => Rep.mono (PH.le.refl _) (PH.le.refl _) q2 h
              refine .inl (hstep w0 F Hp' hs' w1 a1 K1 Q q3 (evO_rep ?_) fun Hp'' ex w' v hle' hi' hv => ?_)
              · intro t
                rw [Fr.get_put]
                split
                · rename_i e'; subst e'; exact (q5 hLa).1
                refine lay_holds R _ (mask_holds (early i seg) fr1 fun t hth => hRF t F Hp' hs' _ (hup (hfree t (free_early hth)))) (fun j d av' hm hj => ?_) t
                obtain ⟨i', hi'⟩ := List.getElem?_of_mem hm
                obtain ⟨e0, ⟨oq, e1, e2⟩, x, e3, e4⟩ := hG.ent i' j (some d) av' hi'
                have hj' : i' < O.length := (List.getElem?_eq_some_iff.1 e3).1
                exact e4 F Hp' hs' _ (hup (q9 j oq d x (by omega) (by omega) (hq' j (hj _ rfl)) e1 e2 (by rw [show j - p = i' by omega]; exact e3)))
              · have hmono : ∀ {x : AV} {v : Value}, Rep F Hp' hs x v → Rep F Hp'' hs x v := fun h => Rep.mono (PH.le.refl _) hle' (HL.refl _) h
                refine hK1 _ _ ⟨Hp'', hs' ++ ex, M1, q1.trans hle', q2.trans (HL.append _ _), hi', fun hn => absurd (.inr hLa) hn, fun _ => ⟨?_, fun hn => absurd (.inl rfl) hn⟩, fun _ => ⟨.inr hLa, rfl, v, hv, fun d hd => hself v hd⟩, hdput v, hsput v, ?_, ?_, hseen _ v rfl, hclos⟩
                · rw [hother v hqb.1 hqb.2 hLa hoq hda]
                  exact Rep.mono (PH.le.refl _) hle' (HL.append _ _) (q5 hLa).1
                · intro j oj d x hpj hj hl hoj hd hx
                  rcases hl with rfl | hl
                  · rw [hoc] at hoj; cases hoj
                    rw [hsnap hx hefe]; exact .top _
                  · rw [hother v hpj hj hl hoj hd]
                    exact hmono (q9 j oj d x hpj hj hl hoj hd hx)
                · intro t ht
                  rw [put_other (ht i e hpi hih (.inl rfl) hoc)]
                  exact hmono (q10 t fun j oj hpj hj hl hoj => ht j oj hpj hj (.inr hl) hoj)
            · by_cases hiq : i = q
              · subst hiq
                rw [hoq] at ho; cases ho
                obtain ⟨rfl, rfl⟩ := q4 hnl
                have hnc : ¬ L c := fun hl => hnl (q6 hl).1
                have hwant : Region.wanted oa (yielded ops a1.tmps) = true := by simp [Region.wanted, hga]
                simp only [wpOp, hoq, hwant, if_true]
                refine .inl (hstepA w0 F Hp' hs' w1 a1 K1 Q q3 (fun _ => .top _) fun Hp'' ex w' v hle' hi' hal' hv => ?_)
                have hmono : ∀ {x : AV} {v : Value}, Rep F Hp' hs' x v → Rep F Hp'' hs' x v := fun h => Rep.mono (PH.le.refl _) hle' (HL.refl _) h
                have hefa : isEff oa.op = true := by
                  unfold isAl at hal
                  split at hal
                  · rename_i t heq; rw [heq]; rfl
                  · cases hal
                refine hK1 _ _ ⟨Hp'', hs' ++ ex, M0, q1.trans hle', q2.trans (HL.append _ _), hi', fun hn => absurd (.inl rfl) hn, fun _ => ⟨?_, fun _ => ⟨rfl, hal' hal⟩⟩, fun hl => ?_, hdput v, hsput v, ?_, ?_, hseen _ v rfl, hclos⟩
                · rw [hself v hda]; exact hv
                · rcases hl with hl | hl
                  · exact absurd hl.symm hqc
                  · exact absurd hl hnc
                · intro j oj d x hpj hj hl hoj hd hx
                  rcases hl with rfl | hl
                  · rw [hoq] at hoj; cases hoj
                    rw [hsnap hx hefa]; exact .top _
                  · rw [hother v hpj hj hl hoj hd]
                    exact hmono (q9 j oj d x hpj hj hl hoj hd hx)
                · intro t ht
                  rw [put_other (ht i oa hpi hih (.inl rfl) hoq)]
                  exact hmono (q10 t fun j oj hpj hj hl hoj => ht j oj hpj hj (.inr hl) hoj)
              · obtain ⟨av', hav⟩ : ∃ av, O[i - p]? = some av := ⟨_, List.getElem?_eq_getElem (by omega)⟩
                have hef : isEff o.op = false := hpure (j := i - p) (hseg' hpi hih ho) (by omega) (by omega)
                have hMx : isMv o = true ∨ (Ext M hs Mx hs' ∧ InvS w0 F Hp' hs M w1) := by
                  by_cases hLc : L c
                  · rcases hLq L q12 (q12 c e hcb.2 hoc hLc) hpi hih ho hie with h | h
                    · exact .inl h
                    · exact absurd h hnl
                  · by_cases hLa : L q
                    · obtain ⟨rfl, g2⟩ := (q5 hLa).2 hLc
                      exact .inr g2
                    · obtain ⟨rfl, rfl⟩ := q4 hLa
                      exact .inr ⟨Ext.refl q3.len, q3⟩
                have hhd := (hH (i - p) o av' (by rw [show p + (i - p) = i by omega]; exact ho) hav).2 hef
                rw [show p + (i - p) = i by omega] at hhd
                refine hhd w0 F Hp' hs hs' Mx w1 a1 Q K1 hMx q3 (fun q hqa hpq oq d x e1 e2 e3 => q9 q oq d x hpq (by have := hbel i o ho q hqa; omega) (hq' q hqa) e1 e2 e3) hfree fun Hp'' w' v hle' hi' hi2 hv => ?_
                have hmono : ∀ {hs : List Value} {x : AV} {v : Value}, Rep F Hp' hs x v → Rep F Hp'' hs x v := fun h => Rep.mono (PH.le.refl _) hle' (HL.refl _) h
                refine hK1 _ _ ⟨Hp'', hs', Mx, q1.trans hle', q2, hi', fun hn => q4 fun hl => hn (.inr hl), fun hl => ?_, fun hl => ?_, hdput v, hsput v, ?_, ?_, hseen _ v rfl, hclos⟩
                · rcases hl with hl | hl
                  · exact absurd hl.symm hiq
                  · refine ⟨by rw [hother v hqb.1 hqb.2 hl hoq hda]; exact hmono (q5 hl).1, fun hn => ?_⟩
                    obtain ⟨g1, g2, g3⟩ := (q5 hl).2 fun h => hn (.inr h)
                    subst g1
                    exact ⟨rfl, g2, hi2 g2 g3⟩
                · rcases hl with hl | hl
                  · exact absurd hl.symm hie
                  · obtain ⟨g0, g1, ve, g2, g3⟩ := q6 hl
                    exact ⟨.inr g0, g1, ve, hmono g2, fun d hd => by rw [hother v hcb.1 hcb.2 hl hoc hd]; exact g3 d hd⟩
                · intro j oj d x hpj hj hl hoj hd hx
                  rcases hl with rfl | hl
                  · rw [ho] at hoj; cases hoj
                    rw [hav] at hx; cases hx
                    rw [hself v hd]; exact hv
                  · rw [hother v hpj hj hl hoj hd]
                    exact hmono (q9 j oj d x hpj hj hl hoj hd hx)
                · intro t ht
                  rw [put_other (ht i o hpi hih (.inl rfl) ho)]
                  exact hmono (q10 t fun j oj hpj hj hl hoj => ht j oj hpj hj (.inr hl) hoj)
          · rintro a1 w1 ⟨Hp', hs', Mx, q1, q2, q3, q4, q5, q6, q7, q8, q9, q10, q11, _⟩
            obtain ⟨_, rfl, v, hv, hvd⟩ := q6 (by omega)
            have hst' : StI n k w0 F Hp' hs' ((layF none R (maskF seg fr1)).put d0 av0) Mx w1 a1 := by
              refine ⟨q3, q7, q8, ?_, Nat.le_trans hst.kl (HL.len q2)⟩
              intro t
              rw [Fr.get_put]
              split
              · rename_i e'; subst e'; exact (q5 (by omega)).1
              refine lay_holds R _ (mask_holds _ fr1 fun t ht => hRF t F Hp' hs' _ (Rep.mono (PH.le.refl _) (PH.le.refl _) q2 (q10 t fun j oj hpj hj _ hoj hd => ht (dstsN_mem (hseg' hpj hj hoj) hd)))) (fun j d av hm _ => ?_) t
              obtain ⟨i, hi⟩ := List.getElem?_of_mem hm
              obtain ⟨e0, ⟨o, e1, e2⟩, x, e3, e4⟩ := hG.ent i j (some d) av hi
              have hj : i < O.length := (List.getElem?_eq_some_iff.1 e3).1
              exact e4 F Hp' hs' _ (Rep.mono (PH.le.refl _) (PH.le.refl _) q2 (q9 j o d x (by omega) (by omega) (by omega) e1 e2 (by rw [show j - p = i by omega]; exact e3)))
            obtain ⟨Hp2, hle2, hst2⟩ := hput w0 F Hp' hs' w1 a1 v hst' hv
            have hsame : a1.put e.dst v = a1 := by
              cases hd : e.dst with
              | none => rfl
              | some d => exact put_self (hvd d hd)
            rw [hsame] at hst2
            exact hgo w0 F Hp2 hs' w1 a1 K hst2 (fun Hp'' hs'' w' a' hle' hl hst'' hsame => hk Hp'' hs'' w' a' ((q1.trans hle2).trans hle') (q2.trans hl) hst'' (fun t ht => by
              rw [hdr, dstsN_append, List.mem_append, not_or] at ht
              rw [hsame t ht.2, q11 t ht.1])) Q hq
          · exact ⟨Hp, hs, M, PH.le.refl _, HL.refl _, hst.inv, fun _ => ⟨rfl, rfl⟩, fun hl => by omega, fun hl => by omega, hst.dfr, hst.sz, fun j o d x hpj hj hl => by omega, fun t _ => hst.tm t, fun _ _ => rfl, fun j o hj ho hl q hq => by have := hbel j o ho q hq; omega⟩
        · split at h
          · have hne0 : noEff ((ops.toList.drop p).take (b - p)) = true := by
              cases hx : noEff ((ops.toList.drop p).take (b - p)) with
              | true => rfl
              | false => rw [hx] at h; exact h.elim
            simp only [hne0] at h
            generalize hsegd : (ops.toList.drop p).take (b - p) = seg at h c4 c5 hne0
            have hnd := ndN_ok c4
            have hdn := below_ok c5
            have hseglen : seg.length = b - p := by rw [← hsegd]; simp; omega
            have hseg : ∀ (i : Nat) o, seg[i]? = some o → ops[p + i]? = some o := by
              intro i o ho
              rw [← hsegd, List.getElem?_take] at ho
              split at ho
              · rw [List.getElem?_drop, Array.getElem?_toList] at ho; exact ho
              · cases ho
            have hseg' : ∀ {j : Nat} {o : Oper}, p ≤ j → j < b → ops[j]? = some o → seg[j - p]? = some o := by
              intro j o h1 h2 ho
              rw [← hsegd, List.getElem?_take, if_pos (by omega), List.getElem?_drop, Array.getElem?_toList, show p + (j - p) = j by omega]; exact ho
            have hdr : ops.toList.drop p = seg ++ ops.toList.drop b := by rw [← hsegd]; exact drop_cut _ (by omega)
            obtain ⟨R, O, fr1, hK, hOl, hG, hRF, hH⟩ := evHeads_ok hE rfl seg seg.length (Nat.le_refl _) hseg hbel (fr0 := fr) seg [] [] fr _ (by simp) (by simp) ⟨rfl, fun i j d av h => by simp at h⟩ (fun t F Hp hs v hv => hv) (fun i o av _ h => by simp at h) (by simpa using h)
            obtain ⟨fr', M', hK', hgo⟩ := evSegs_ok hE hbel bs b hok hK
            refine ⟨fr', M', hK', fun w0 F Hp hs w a K hst hk Q hq => ?_⟩
            refine WA.seg p b (by omega) hbn hpart hbel (J := fun L a' w' => ∃ Hp', Hp.le Hp' ∧ InvS w0 F Hp' hs M w' ∧ a'.defers = [] ∧ a'.tmps.size = n ∧
              (∀ j o d x, p ≤ j → j < b → L j → ops[j]? = some o → o.dst = some d → O[j - p]? = some x → Rep F Hp' hs x (a'.tmps.getD d undef)) ∧
              (∀ t, (∀ j o, p ≤ j → j < b → L j → ops[j]? = some o → o.dst ≠ some t) → Rep F Hp' hs (fr.get t) (a'.tmps.getD t undef)) ∧ (∀ t, t ∉ dstsN seg → a'.tmps.getD t undef = a.tmps.getD t undef) ∧ (∀ j o, p ≤ j → j < b → ops[j]? = some o → L j → ∀ q ∈ aftN o, L q)) ?_ ?_ ?_ ?_
            · rintro L L' a w hL ⟨Hp', q1, q2, q3, q4, q5, q6, q7, q8⟩
              exact ⟨Hp', q1, q2, q3, q4, fun j o d x hpj hj hl => q5 j o d x hpj hj ((hL j hj).2 hl), fun t ht => q6 t fun j o hpj hj hl => ht j o hpj hj ((hL j hj).1 hl), q7,
                fun j o hpj hj ho hl q hq => (hL q (by have := hbel j o ho q hq; omega)).1 (q8 j o hpj hj ho ((hL j hj).2 hl) q hq)⟩
            · rintro i o L a1 w1 hpi hih ho hnl hq' ⟨Hp', q1, q2, q3, q4, q5, q6, q7, q8⟩ K1 hK1
              obtain ⟨av, hav⟩ : ∃ av, O[i - p]? = some av := ⟨_, List.getElem?_eq_getElem (by omega)⟩
              have hhd := (hH (i - p) o av (by rw [show p + (i - p) = i by omega]; exact ho) hav).2 (noEff_get hne0 (hseg' hpi hih ho))
              rw [show p + (i - p) = i by omega] at hhd
              refine hhd w0 F Hp' hs hs M w1 a1 Q K1 (.inr ⟨Ext.refl q2.len, q2⟩) q2 (fun q hqa hpq oq d x e1 e2 e3 => q5 q oq d x hpq (by have := hbel i o ho q hqa; omega) (hq' q hqa) e1 e2 e3) (fun t hfr => q6 t fun j oj hpj hj hl hoj hd => hnl (q8 j oj hpj hj hoj hl i (hfr oj (List.mem_of_getElem? (hseg' hpj hj hoj)) hd))) fun Hp'' w' v hle' hi' _ hv => ?_
              refine hK1 _ _ ⟨Hp'', q1.trans hle', hi', ?_, ?_, ?_, ?_, ?_, ?_⟩
              · cases hdst : o.dst with
                | none => simpa [Act.put] using q3
                | some d => simpa [Act.put] using q3
              · cases hdst : o.dst with
                | none => simpa [Act.put] using q4
                | some d => simpa [Act.put] using q4
              · intro j oj d x hpj hj hl hoj hd hx
                cases hdst : o.dst with
                | none =>
                  rcases hl with rfl | hl
                  · rw [ho] at hoj; cases hoj; rw [hdst] at hd; cases hd
                  · exact Rep.mono (PH.le.refl _) hle' (HL.refl _) (q5 j oj d x hpj hj hl hoj hd hx)
                | some di =>
                  have hdi : di < a1.tmps.size := by rw [q4]; exact hdn di (dstsN_mem (hseg' hpi hih ho) hdst)
                  rw [getD_put hdi]
                  rcases hl with rfl | hl
                  · rw [ho] at hoj; cases hoj
                    rw [hdst] at hd; cases hd
                    rw [hav] at hx; cases hx
                    rw [if_pos rfl]; exact hv
                  · have hne : di ≠ d := by
                      intro e; subst e
                      have := dstsN_inj hnd (hseg' hpi hih ho) (hseg' hpj hj hoj) hdst hd
                      have : i = j := by omega
                      subst this
                      exact hnl hl
                    rw [if_neg hne]
                    exact Rep.mono (PH.le.refl _) hle' (HL.refl _) (q5 j oj d x hpj hj hl hoj hd hx)
              · intro t ht
                have hold := q6 t fun j oj hpj hj hl hoj => ht j oj hpj hj (.inr hl) hoj
                have hne := ht i o hpi hih (.inl rfl) ho
                rw [put_other hne]
                exact Rep.mono (PH.le.refl _) hle' (HL.refl _) hold
              · intro t ht
                rw [put_other (fun e => ht (dstsN_mem (hseg' hpi hih ho) e))]
                exact q7 t ht
              · rintro j oj hpj hj hoj (rfl | hl) q hq
                · rw [ho] at hoj; cases hoj; exact .inr (hq' q hq)
                · exact .inr (q8 j oj hpj hj hoj hl q hq)
            · rintro a1 w1 ⟨Hp', q1, q2, q3, q4, q5, q6, q7, _⟩
              have hst' : StI n k w0 F Hp' hs (layF none R (maskF seg fr1)) M w1 a1 := by
                refine ⟨q2, q3, q4, ?_, hst.kl⟩
                refine lay_holds R _ (mask_holds _ fr1 fun t ht => hRF t F Hp' hs _ (q6 t fun j oj hpj hj _ hoj hd => ht (dstsN_mem (hseg' hpj hj hoj) hd))) fun j d av hm _ => ?_
                obtain ⟨i, hi⟩ := List.getElem?_of_mem hm
                obtain ⟨e0, ⟨o, e1, e2⟩, x, e3, e4⟩ := hG.ent i j (some d) av hi
                have hj : i < O.length := (List.getElem?_eq_some_iff.1 e3).1
                exact e4 F Hp' hs _ (q5 j o d x (by omega) (by omega) (by omega) e1 e2 (by rw [show j - p = i by omega]; exact e3))
              exact hgo w0 F Hp' hs w1 a1 K hst' (fun Hp'' hs' w' a' hle' hl hst'' hsame => hk Hp'' hs' w' a' (q1.trans hle') hl hst'' (fun t ht => by
                rw [hdr, dstsN_append, List.mem_append, not_or] at ht
                rw [hsame t ht.2, q7 t ht.1])) Q hq
            · exact ⟨Hp, PH.le.refl _, hst.inv, hst.dfr, hst.sz, fun j o d x hpj hj hl => by omega, fun t _ => hst.tm t, fun _ _ => rfl, fun j o hpj hj ho hl => by omega⟩
          · rename_i e heff
            have hne0 : noEff ((ops.toList.drop p).take (b - 1 - p)) = true := by
              cases hx : noEff ((ops.toList.drop p).take (b - 1 - p)) with
              | true => rfl
              | false => rw [hx] at h; exact h.elim
            simp only [hne0] at h
            obtain ⟨he, hguard, hanc⟩ := effLast_ok heff
            rw [Array.getElem?_toList] at he
            generalize hsegd : (ops.toList.drop p).take (b - p) = seg at h c4 c5
            have hnd := ndN_ok c4
            have hdn := below_ok c5
            have hseglen : seg.length = b - p := by rw [← hsegd]; simp; omega
            have hseg : ∀ (i : Nat) o, seg[i]? = some o → ops[p + i]? = some o := by
              intro i o ho
              rw [← hsegd, List.getElem?_take] at ho
              split at ho
              · rw [List.getElem?_drop, Array.getElem?_toList] at ho; exact ho
              · cases ho
            have hseg' : ∀ {j : Nat} {o : Oper}, p ≤ j → j < b → ops[j]? = some o → seg[j - p]? = some o := by
              intro j o h1 h2 ho
              rw [← hsegd, List.getElem?_take, if_pos (by omega), List.getElem?_drop, Array.getElem?_toList, show p + (j - p) = j by omega]; exact ho
            have hdr : ops.toList.drop p = seg ++ ops.toList.drop b := by rw [← hsegd]; exact drop_cut _ (by omega)
            have htk : (ops.toList.drop p).take (b - 1 - p) = seg.take (b - 1 - p) := by rw [← hsegd, List.take_take, Nat.min_eq_left (by omega)]
            rw [htk] at h hanc hne0
            obtain ⟨R, O, fr1, hK, hOl, hG, hRF, hH⟩ := evHeads_ok hE rfl seg (b - 1 - p) (by omega) hseg hbel (fr0 := fr) (seg.take (b - 1 - p)) [] [] fr _ (by simp) (by simp) ⟨rfl, fun i j d av h => by simp at h⟩ (fun t F Hp hs v hv => hv) (fun i o av _ h => by simp at h) (by simpa using h)
            obtain ⟨av, M1, h2, hstep⟩ := evW_okX hE hK
            obtain ⟨fr2, M2, h3, hput⟩ := evPut_ok (P := P) (n := n) (k := k) h2
            obtain ⟨fr', M', hK', hgo⟩ := evSegs_ok hE hbel bs b hok h3
            refine ⟨fr', M', hK', fun w0 F Hp hs w a K hst hk Q hq => ?_⟩
            refine WA.seg p b (by omega) hbn hpart hbel (J := fun L a' w' => ∃ Hp' hs' Mx, Hp.le Hp' ∧ HL hs hs' ∧ InvS w0 F Hp' hs' Mx w' ∧ (¬ L (b - 1) → hs' = hs ∧ Mx = M) ∧
              (L (b - 1) → Mx = M1 ∧ (isAl e.op = true → Ext M hs M1 hs' ∧ InvS w0 F Hp' hs M w') ∧ ∃ v, Rep F Hp' hs' av v ∧ ∀ d, e.dst = some d → a'.tmps.getD d undef = v) ∧ a'.defers = [] ∧ a'.tmps.size = n ∧
              (∀ j o d x, p ≤ j → j < b - 1 → L j → ops[j]? = some o → o.dst = some d → O[j - p]? = some x → Rep F Hp' hs x (a'.tmps.getD d undef)) ∧
              (∀ t, (∀ j o, p ≤ j → j < b → L j → ops[j]? = some o → o.dst ≠ some t) → Rep F Hp' hs (fr.get t) (a'.tmps.getD t undef)) ∧ (∀ t, t ∉ dstsN seg → a'.tmps.getD t undef = a.tmps.getD t undef) ∧ (∀ j o, j < b → ops[j]? = some o → L j → ∀ q ∈ aftN o, L q)) ?_ ?_ ?_ ?_
            · rintro L L' a w hL ⟨Hp', hs', Mx, q1, q2, q3, q4, q5, q6, q7, q8, q9, q10, q11⟩
              have hbL := hL (b - 1) (by omega)
              exact ⟨Hp', hs', Mx, q1, q2, q3, fun hn => q4 fun hl => hn (hbL.1 hl), fun hl => q5 (hbL.2 hl), q6, q7, fun j o d x hpj hj hl => q8 j o d x hpj hj ((hL j (by omega)).2 hl), fun t ht => q9 t fun j o hpj hj hl => ht j o hpj hj ((hL j hj).1 hl), q10,
                fun j o hj ho hl q hq => (hL q (by have := hbel j o ho q hq; omega)).1 (q11 j o hj ho ((hL j hj).2 hl) q hq)⟩
            · rintro i o L a1 w1 hpi hih ho hnl hq' ⟨Hp', hs', Mx, q1, q2, q3, q4, q5, q6, q7, q8, q9, q10, q11⟩ K1 hK1
              have hfree : ∀ t, Free seg i t → Rep F Hp' hs (fr.get t) (a1.tmps.getD t undef) := fun t hfr => q9 t fun j oj hpj hj hl hoj hd => hnl (q11 j oj hj hoj hl i (hfr oj (List.mem_of_getElem? (hseg' hpj hj hoj)) hd))
              have hseen : ∀ (a2 : Act) v, a2 = a1.put o.dst v → (∀ t, t ∉ dstsN seg → a2.tmps.getD t undef = a.tmps.getD t undef) := by
                rintro a2 v rfl t ht
                rw [put_other (fun e => ht (dstsN_mem (hseg' hpi hih ho) e))]
                exact q10 t ht
              have hclos : ∀ j oj, j < b → ops[j]? = some oj → (j = i ∨ L j) → ∀ q ∈ aftN oj, q = i ∨ L q := by
                rintro j oj hj hoj (rfl | hl) q hq
                · rw [ho] at hoj; cases hoj; exact .inr (hq' q hq)
                · exact .inr (q11 j oj hj hoj hl q hq)
              have hdput : ∀ v, (a1.put o.dst v).defers = [] := fun v => by
                cases hdst : o.dst with
                | none => simpa [Act.put] using q6
                | some d => simpa [Act.put] using q6
              have hsput : ∀ v, (a1.put o.dst v).tmps.size = n := fun v => by
                cases hdst : o.dst with
                | none => simpa [Act.put] using q7
                | some d => simpa [Act.put] using q7
              have hother : ∀ {j : Nat} {oj : Oper} {d : Nat} (v : Value), p ≤ j → j < b → L j → ops[j]? = some oj → oj.dst = some d → (a1.put o.dst v).tmps.getD d undef = a1.tmps.getD d undef := by
                intro j oj d v hpj hj hl hoj hd
                refine put_other fun e => ?_
                have := dstsN_inj hnd (hseg' hpi hih ho) (hseg' hpj hj hoj) e hd
                have : i = j := by omega
                subst this
                exact hnl hl
              have hself : ∀ {d : Nat} (v : Value), o.dst = some d → (a1.put o.dst v).tmps.getD d undef = v := by
                intro d v hd
                rw [hd, getD_put (by rw [q7]; exact hdn d (dstsN_mem (hseg' hpi hih ho) hd)), if_pos rfl]
              by_cases hie : i = b - 1
              · subst hie
                rw [he] at ho; cases ho
                obtain ⟨rfl, rfl⟩ := q4 hnl
                have hwant : Region.wanted e (yielded ops a1.tmps) = true := by simp [Region.wanted, hguard]
                simp only [wpOp, he, hwant, if_true]
                refine .inl (hstep w0 F Hp' hs' w1 a1 K1 Q q3 (evO_rep ?_) fun Hp'' ex w' v hle' hi' hal' hv => ?_)
                · refine lay_holds R _ (mask_holds (early (b - 1) seg) fr1 fun t hth => hRF t F Hp' hs' _ (hfree t (free_early hth))) fun j d av' hm hj => ?_
                  obtain ⟨i', hi'⟩ := List.getElem?_of_mem hm
                  obtain ⟨e0, ⟨oq, e1, e2⟩, x, e3, e4⟩ := hG.ent i' j (some d) av' hi'
                  have hj' : i' < O.length := (List.getElem?_eq_some_iff.1 e3).1
                  exact e4 F Hp' hs' _ (q8 j oq d x (by omega) (by omega) (hq' j (hj _ rfl)) e1 e2 (by rw [show j - p = i' by omega]; exact e3))
                · have hmono : ∀ {x : AV} {v : Value}, Rep F Hp' hs' x v → Rep F Hp'' hs' x v := fun h => Rep.mono (PH.le.refl _) hle' (HL.refl _) h
                  refine hK1 _ _ ⟨Hp'', hs' ++ ex, M1, q1.trans hle', q2.trans (HL.append _ _), hi', fun hn => absurd (.inl rfl) hn, fun _ => ⟨rfl, hal', v, hv, fun d hd => hself v hd⟩, hdput v, hsput v, ?_, ?_, hseen _ v rfl, hclos⟩
                  · intro j oj d x hpj hj hl hoj hd hx
                    rcases hl with rfl | hl
                    · omega
                    · rw [hother v hpj (by omega) hl hoj hd]
                      exact hmono (q8 j oj d x hpj hj hl hoj hd hx)
                  · intro t ht
                    rw [put_other (ht (b - 1) e hpi hih (.inl rfl) he)]
                    exact hmono (q9 t fun j oj hpj hj hl hoj => ht j oj hpj hj (.inr hl) hoj)
              · obtain ⟨av', hav⟩ : ∃ av, O[i - p]? = some av := ⟨_, List.getElem?_eq_getElem (by omega)⟩
                have hMx : isMv o = true ∨ (Ext M hs Mx hs' ∧ InvS w0 F Hp' hs M w1) := by
                  by_cases hLe : L (b - 1)
                  · rcases hanc with hal | hanc
                    · obtain ⟨rfl, g2, _⟩ := q5 hLe
                      exact .inr (g2 hal)
                    left
                    have := ancOk_get hanc (j := i - p) (o := o) (by rw [List.getElem?_take, if_pos (by omega)]; exact hseg' hpi hih ho)
                    rw [show p + (i - p) = i by omega] at this
                    rcases this with h | h
                    · exact h
                    · exfalso
                      exact hnl (ancL_ok (L := L) (fun j oj hj hoj hl => q11 j oj (by omega) (by rw [← Array.getElem?_toList]; exact hoj) hl) (q11 (b - 1) e (by omega) he hLe) (hasN_iff.1 h))
                  · obtain ⟨rfl, rfl⟩ := q4 hLe
                    exact .inr ⟨Ext.refl q3.len, q3⟩
                have hhd := (hH (i - p) o av' (by rw [show p + (i - p) = i by omega]; exact ho) hav).2 (noEff_get hne0 (j := i - p) (by rw [List.getElem?_take, if_pos (by omega)]; exact hseg' hpi hih ho))
                rw [show p + (i - p) = i by omega] at hhd
                refine hhd w0 F Hp' hs hs' Mx w1 a1 Q K1 hMx q3 (fun q hqa hpq oq d x e1 e2 e3 => q8 q oq d x hpq (by have := hbel i o ho q hqa; omega) (hq' q hqa) e1 e2 e3) hfree fun Hp'' w' v hle' hi' hi2 hv => ?_
                have hmono : ∀ {hs : List Value} {x : AV} {v : Value}, Rep F Hp' hs x v → Rep F Hp'' hs x v := fun h => Rep.mono (PH.le.refl _) hle' (HL.refl _) h
                refine hK1 _ _ ⟨Hp'', hs', Mx, q1.trans hle', q2, hi', fun hn => q4 fun hl => hn (.inr hl), fun hl => ?_, hdput v, hsput v, ?_, ?_, hseen _ v rfl, hclos⟩
                · rcases hl with hl | hl
                  · exact absurd hl.symm hie
                  · obtain ⟨g1, g0, ve, g2, g3⟩ := q5 hl
                    subst g1
                    exact ⟨rfl, fun e => ⟨(g0 e).1, hi2 (g0 e).1 (g0 e).2⟩, ve, hmono g2, fun d hd => by rw [hother v (by omega) (by omega) hl he hd]; exact g3 d hd⟩
                · intro j oj d x hpj hj hl hoj hd hx
                  rcases hl with rfl | hl
                  · rw [ho] at hoj; cases hoj
                    rw [hav] at hx; cases hx
                    rw [hself v hd]; exact hv
                  · rw [hother v hpj (by omega) hl hoj hd]
                    exact hmono (q8 j oj d x hpj hj hl hoj hd hx)
                · intro t ht
                  rw [put_other (ht i o hpi hih (.inl rfl) ho)]
                  exact hmono (q9 t fun j oj hpj hj hl hoj => ht j oj hpj hj (.inr hl) hoj)
            · rintro a1 w1 ⟨Hp', hs', Mx, q1, q2, q3, q4, q5, q6, q7, q8, q9, q10, _⟩
              obtain ⟨rfl, _, v, hv, hvd⟩ := q5 (by omega)
              have hst' : StI n k w0 F Hp' hs' (layF none R (maskF seg fr1)) Mx w1 a1 := by
                refine ⟨q3, q6, q7, ?_, Nat.le_trans hst.kl (HL.len q2)⟩
                refine lay_holds R _ (mask_holds _ fr1 fun t ht => hRF t F Hp' hs' _ (Rep.mono (PH.le.refl _) (PH.le.refl _) q2 (q9 t fun j oj hpj hj _ hoj hd => ht (dstsN_mem (hseg' hpj hj hoj) hd)))) fun j d av hm _ => ?_
                obtain ⟨i, hi⟩ := List.getElem?_of_mem hm
                obtain ⟨e0, ⟨o, e1, e2⟩, x, e3, e4⟩ := hG.ent i j (some d) av hi
                have hj : i < O.length := (List.getElem?_eq_some_iff.1 e3).1
                exact e4 F Hp' hs' _ (Rep.mono (PH.le.refl _) (PH.le.refl _) q2 (q8 j o d x (by omega) (by omega) (by omega) e1 e2 (by rw [show j - p = i by omega]; exact e3)))
              obtain ⟨Hp2, hle2, hst2⟩ := hput w0 F Hp' hs' w1 a1 v hst' hv
              have hsame : a1.put e.dst v = a1 := by
                cases hd : e.dst with
                | none => rfl
                | some d => exact put_self (hvd d hd)
              rw [hsame] at hst2
              exact hgo w0 F Hp2 hs' w1 a1 K hst2 (fun Hp'' hs'' w' a' hle' hl hst'' hsame => hk Hp'' hs'' w' a' ((q1.trans hle2).trans hle') (q2.trans hl) hst'' (fun t ht => by
                rw [hdr, dstsN_append, List.mem_append, not_or] at ht
                rw [hsame t ht.2, q10 t ht.1])) Q hq
            · exact ⟨Hp, hs, M, PH.le.refl _, HL.refl _, hst.inv, fun _ => ⟨rfl, rfl⟩, fun hl => by omega, hst.dfr, hst.sz, fun j o d x hpj hj hl => by omega, fun t _ => hst.tm t, fun _ _ => rfl, fun j o hj ho hl q hq => by have := hbel j o ho q hq; omega⟩
    · cases hok
theorem evDraw_ok (hE : EnvOk P E) {fz : List Nat} {bs : List Nat} {ops : Array Oper} {fr : Fr} {M : List Blk} {K : Fr → List Blk → Prop} (hev : evDraw E n fz bs ops.toList fr M K) :
    ∃ fr' M', K fr' M' ∧ GoesO P n k (dstsN ops.toList) (RunAny P ops) fr M fr' M' := by
  unfold evDraw at hev
  split at hev
  · rename_i hb hok
    have hbel : ∀ (i : Nat) o, ops[i]? = some o → ∀ q ∈ aftN o, q < i := by
      intro i o ho q hq
      have := belowAll_ok hb i o (by rw [Array.getElem?_toList]; exact ho) q hq
      omega
    obtain ⟨fr', M', hK, hgo⟩ := evSegs_ok (k := k) hE hbel bs 0 hok hev
    refine ⟨fr', M', hK, fun w0 F Hp hs w a K hst hk Q hq => ?_⟩
    have := hgo w0 F Hp hs w a K hst hk Q hq
    refine this ops.size _ (by simp) (fun j => ?_) (by omega)
    constructor
    · intro hl
      simp [Lst, Array.getD] at hl
    · intro hj; omega
  · exact hev.elim
end Go.Sx
end
