/- A symbolic evaluator of functions, proved sound against the model. Conditions: none beyond those of the given statement. -/
import Derived.Test.YtcdpapgkgiifjaaDoorSx3
import Derived.Below
import Derived.Deep.Slices
set_option linter.unusedVariables false
set_option linter.unusedSimpArgs false
section
namespace Go.Sx
open Go
variable {P : Program} {E : Env} {n k : Nat}
/-! operations under a guard, whose answer is a condition's part -/
section
variable {F Hp F0 Hp0 : PH} {hs hs' : List Value}
theorem HL.back (hl : HL hs hs') {m : Nat} {v v0 : Value} (h : hs'[m]? = some v) (h0 : hs[m]? = some v0) : hs[m]? = some v := by
  have := hl m v0 h0
  rw [h] at this; cases this; exact h0
mutual
theorem Rep.restrict (hl : HL hs hs') : ∀ {a : AV} {v : Value}, Rep F Hp hs' a v → ∀ {v0 : Value}, Rep F0 Hp0 hs a v0 → Rep F Hp hs a v
  | _, _, .top v, _, _ => .top v
  | _, _, .val v, _, _ => .val v
  | _, _, .tt, _, _ => .tt
  | _, _, .ff, _, _ => .ff
  | _, _, .sl k xs A cap css h1 h2 h3 h4 h5, _, _ => sl_free (.sl k xs A cap css h1 h2 h3 h4 h5)
  | _, _, .lt k xs A cap css h1 h2 h3 h4 h5, _, _ => .lt k xs A cap css h1 h2 h3 (fun i x hx => enc_free (h4 i x hx)) h5
  | _, _, .rp cs off a vs hr hc, _, g => by cases g with | rp _ _ _ _ gr _ => exact .rp cs off a vs (Reps.restrict hl hr gr) hc
  | _, _, .ptr n off b h, _, g => by cases g with | ptr _ _ _ g => exact .ptr n off b (hl.back h g)
  | _, _, .ep n sz i off b l c h, _, g => by cases g with | ep _ _ _ _ _ _ _ g => exact .ep n sz i off b l c (hl.back h g)
  | _, _, .es n sz i len cap b l c A c' h h2 h3 h4 h5, _, g => by cases g with | es _ _ _ _ _ _ _ _ _ _ g => exact .es n sz i len cap b l c A c' (hl.back h g) h2 h3 h4 h5
  | _, _, .own n v h, _, g => by cases g with | own _ _ g => exact .own n v (hl.back h g)
  | _, _, .agg cs vs h, _, g => by cases g with | agg _ _ g => exact .agg cs vs (Reps.restrict hl h g)
  | _, _, .tup cs vs h, _, g => by cases g with | tup _ _ g => exact .tup cs vs (Reps.restrict hl h g)
  | _, _, .ifc T a v h, _, g => by cases g with | ifc _ _ _ g => exact .ifc T a v (Rep.restrict hl h g)
theorem Reps.restrict (hl : HL hs hs') : ∀ {a : List AV} {v : List Value}, Reps F Hp hs' a v → ∀ {v0 : List Value}, Reps F0 Hp0 hs a v0 → Reps F Hp hs a v
  | _, _, .nil, _, _ => .nil
  | _, _, .cons h t, _, g => by cases g with | cons g gt => exact .cons (Rep.restrict hl h g) (Reps.restrict hl t gt)
end
end
theorem BlkAt.restrict {F Hp F0 Hp0 : PH} {hs hs' : List Value} {w w0 : World} (hl : HL hs hs') {h : Value} {blk : Blk} (hb : BlkAt F Hp hs' w h blk) (h0 : BlkAt F0 Hp0 hs w0 h blk) : BlkAt F Hp hs w h blk := by
  cases blk with
  | flat cs =>
    obtain ⟨b, T, vs, rfl, h1, h2⟩ := hb
    obtain ⟨_, _, _, _, _, g2⟩ := h0
    exact ⟨b, T, vs, rfl, h1, Reps.restrict hl h2 g2⟩
  | arr k xs =>
    obtain ⟨A, cap, rfl, h1, h2, h3, h4⟩ := hb
    refine ⟨A, cap, rfl, h1, h2, h3, fun a ha => ?_⟩
    obtain ⟨b, T, c, rfl, g1, g2, g3⟩ := h4 a ha
    exact ⟨b, T, c, rfl, g1, g2, fun i x hx => enc_free (g3 i x hx)⟩
  | strIt s p => exact hb
  | dead => trivial
theorem take_get {α : Type} {a b : List α} (h : a.take b.length = b) {i : Nat} {x : α} (hx : b[i]? = some x) : a[i]? = some x := by
  have hi : i < b.length := (List.getElem?_eq_some_iff.1 hx).1
  have e := congrArg (fun l : List α => l[i]?) h
  simp only [List.getElem?_take, hi, if_true] at e
  rw [e]; exact hx
theorem InvS.restrict {w0 : Base P} {w w' : World} {F Hp Hp' : PH} {hs hs' : List Value} {M M' : List Blk} (h : InvS w0 F Hp' hs' M' w') (h0 : InvS w0 F Hp hs M w) (hl : HL hs hs') (hM : M'.take M.length = M) : InvS w0 F Hp' hs M w' where
  perm := h.perm
  fr := h.fr
  pf := h.pf
  len := h0.len
  one := h0.one
  blk n blk v hm hv := (h.blk n blk v (take_get hM hm) (hl _ _ hv)).restrict hl (h0.blk n blk v hm hv)
  own n blk v b hm hl' hv hi := h.own n blk v b (take_get hM hm) hl' (hl _ _ hv) hi
  inj n m bn bm vn vm b h1 h2 l1 l2 g1 g2 i1 i2 := h.inj n m bn bm vn vm b (take_get hM h1) (take_get hM h2) l1 l2 (hl _ _ g1) (hl _ _ g2) i1 i2
  os := h.os
  tape := h.tape
  output := h.output
  gl := h.gl
def isB (x : AV) (c : Bool) : Prop :=
  match x with
  | .tt => true = c
  | .ff => false = c
  | .val (.bool b) => b = c
  | _ => False
/-- nothing that is owned has turned -/
def Same (a b : List Blk) : Prop := a = b
def beqB : Bool → Bool → Bool
  | true, true => true
  | false, false => true
  | _, _ => false
theorem beqB_ok {a b : Bool} (h : beqB a b = true) : a = b := by cases a <;> cases b <;> first | rfl | cases h
/-- how many stand under a guard, from a place on -/
def grpLen (i g : Nat) (want : Bool) : Nat → List Oper → Nat
  | _, [] => 0
  | j, o :: r => match o.guard with
    | none => 0
    | some (g', w') => match Nat.beq g' g, beqB w' want, Nat.ble i g', Nat.ble (g' + 1) j with
      | true, true, _, _ => grpLen i g want (j + 1) r + 1
      | _, _, true, true => grpLen i g want (j + 1) r + 1
      | _, _, _, _ => 0
structure Grp where
  m : Nat
  tg : Nat
  want : Bool
  cg : Bool
  tl : Nat
  p : Oper
  alt : Bool
def lastD : List Oper → Option Nat
  | [] => none
  | [o] => o.dst
  | _ :: r => lastD r
/-- the operation that picks -/
def grpPick (tg tl : Nat) (want : Bool) (op : Op) : Option Bool :=
  match want, op with
  | true, .pick (.tmp a) (.tmp b) (.const (.bool c)) => match Nat.beq a tg, Nat.beq b tl with
    | true, true => some c
    | _, _ => none
  | false, .pick (.tmp a) (.const (.bool c)) (.tmp b) => match Nat.beq a tg, Nat.beq b tl with
    | true, true => some c
    | _, _ => none
  | _, _ => none
def grpAt (all : List Oper) (i : Nat) (l : List Oper) (fr : Fr) : Option Grp :=
  match l with
  | [] => none
  | o :: _ => match o.guard with
    | none => none
    | some (g, want) => match (all[g]?).bind (·.dst) with
      | none => none
      | some tg => match fr.get tg with
        | .val (.bool cg) => (fun m => match l.drop m, lastD (l.take m), hasN (dstsN (l.take m)) tg with
          | p :: _, some tl, false => match grpPick tg tl want p.op with
            | some alt => some ⟨m, tg, want, cg, tl, p, alt⟩
            | none => none
          | _, _, _ => none) (grpLen i g want i l)
        | _ => none
def selB (want cg b alt : Bool) : Bool :=
  match want, alt with
  | true, false => cg && b
  | true, true => !cg || b
  | false, true => cg || b
  | false, false => !cg && b
def ofB : Bool → AV
  | true => .tt
  | false => .ff
/-- one operation: in a group what is owned is left alone -/
def evX (hm : Bool) (E : Env) (op : Op) (ρ : Operand → AV) (M : List Blk) (K : AV → List Blk → Prop) : Prop :=
  match hm with
  | true => evH E op ρ M fun av => K av M
  | false => evW E op ρ M K
def grpEnd (hg : Bool) (M M' : List Blk) (x : AV) (b : Bool) : Prop :=
  match hg with
  | true => isB x b
  | false => Same (M'.take M.length) M ∧ isB x b
/-- hg: groups leave what is owned alone; hm: we stand in such a group -/
def evOps2 (E : Env) (n : Nat) (hg : Bool) (all : List Oper) : Bool → List Nat → Nat → Nat → List Oper → Fr → List Blk → (Fr → List Blk → Prop) → Prop
  | _, _, 0, _, _, _, _, _ => False
  | hm, fz, f + 1, i, l, fr, M, K => match l with
    | [] => K fr M
    | o :: r => match grpAt all i (o :: r) fr with
      | some G => ∃ b : Bool, (G.cg = G.want → evOps2 E n hg all hg [] f i ((o :: r).take G.m) (fr.put G.tg (ofB G.want)) M fun fr' M' => grpEnd hg M M' (fr'.get G.tl) b) ∧
          evGd all G.p (maskF ((o :: r).take G.m) fr) M
            (fun fr M => evPut n fz G.p.dst (.val (.bool (selB G.want G.cg b G.alt))) fr M fun fr' M'' => evOps2 E n hg all hm fz f (i + G.m + 1) ((o :: r).drop (G.m + 1)) fr' M'' K)
            (fun fr M => evPut n [] G.p.dst (.val undef) fr M fun fr' M' => evOps2 E n hg all hm fz f (i + G.m + 1) ((o :: r).drop (G.m + 1)) fr' M' K)
      | none => evGd all o fr M
          (fun fr M => evX hm E o.op (evO fr) M fun av M' => evPut n fz o.dst av fr M' fun fr' M'' => evOps2 E n hg all hm fz f (i + 1) r fr' M'' K)
          (fun fr M => evPut n [] o.dst (.val undef) fr M fun fr' M' => evOps2 E n hg all hm fz f (i + 1) r fr' M' K)
end Go.Sx
end
section
namespace Go.Sx
open Go
variable {P : Program} {E : Env} {n k : Nat}
/-- operations of a region, and whichever come behind them -/
def RunT (P : Program) (ops : Array Oper) (is : List Nat) (K : Act → World → Prop) (a : Act) (w : World) : Prop :=
  ∀ (js : List Nat) (Q : Exit → Act → World → Prop), (∀ a w, K a w → wpOps P ops Q js a w) → wpOps P ops Q (is ++ js) a w
def Seg (ops : Array Oper) (i : Nat) (l : List Oper) : Prop := ∀ (j : Nat) o, l[j]? = some o → ops[i + j]? = some o
theorem Seg.head {ops : Array Oper} {i : Nat} {o : Oper} {r : List Oper} (h : Seg ops i (o :: r)) : ops[i]? = some o := h 0 o rfl
theorem Seg.tail {ops : Array Oper} {i : Nat} {o : Oper} {r : List Oper} (h : Seg ops i (o :: r)) : Seg ops (i + 1) r := fun j o hj => by
  have := h (j + 1) o (by simpa using hj)
  rwa [Nat.add_assoc, Nat.add_comm 1 j]
theorem Seg.take {ops : Array Oper} {i : Nat} {l : List Oper} (h : Seg ops i l) (m : Nat) : Seg ops i (l.take m) := fun j o hj => by
  rw [List.getElem?_take] at hj
  split at hj
  · exact h j o hj
  · cases hj
theorem Seg.drop {ops : Array Oper} {i : Nat} {l : List Oper} (h : Seg ops i l) (m : Nat) : Seg ops (i + m) (l.drop m) := fun j o hj => by
  rw [List.getElem?_drop] at hj
  have := h _ o hj
  rwa [← Nat.add_assoc] at this
/-- what stands under a guard that isn't met -/
theorem skip_ok {ops : Array Oper} {i0 g tg : Nat} {want : Bool} (hg : (ops.toList[g]?).bind (·.dst) = some tg) {w : World} {K : Act → World → Prop} : ∀ (l : List Oper) (j : Nat) (m : Nat), Seg ops j l → m ≤ grpLen i0 g want j l → tg ∉ dstsN (l.take m) → ∀ (a : Act),
    a.tmps.getD tg undef = .bool (!want) → i0 ≤ j →
    (∀ q, i0 ≤ q → q < j → ∀ o d, ops[q]? = some o → o.dst = some d → d < a.tmps.size → a.tmps.getD d undef = undef) →
    (∀ a', (a'.defers = a.defers) → a'.tmps.size = a.tmps.size → (∀ t, t ∉ dstsN (l.take m) → a'.tmps.getD t undef = a.tmps.getD t undef) → K a' w) →
    RunT P ops (List.range' j m) K a w := by
  intro l
  induction l with
  | nil =>
    intro j m hs hm hn a ha hij hu hk js Q hq
    have : m = 0 := by simpa [grpLen] using hm
    subst this
    exact hq _ _ (hk a rfl rfl (fun t _ => rfl))
  | cons o r ih =>
    intro j m hs hm hn a ha hij hu hk js Q hq
    cases m with
    | zero => exact hq _ _ (hk a rfl rfl (fun t _ => rfl))
    | succ m =>
      have hoi := hs.head
      rw [List.take_succ_cons] at hn hk
      obtain ⟨n1, n2⟩ := not_dsts hn
      have hgl : m ≤ grpLen i0 g want (j + 1) r ∧ Region.wanted o (yielded ops a.tmps) = false := by
        simp only [grpLen] at hm
        split at hm
        · omega
        · rename_i g' w' hgd
          split at hm
          · rename_i e1 e2
            have e1 := beq_nat e1
            have e2 := beqB_ok e2
            subst e1 e2
            refine ⟨by omega, ?_⟩
            simp only [Region.wanted, hgd, yielded_of hg ha]
            cases w' <;> rfl
          · rename_i e3 e4 _
            have e3 := Nat.le_of_ble_eq_true e3
            have e4 := Nat.le_of_ble_eq_true e4
            refine ⟨by omega, ?_⟩
            have : yielded ops a.tmps g' = none := by
              unfold yielded
              cases hx : ops[g']? with
              | none => rfl
              | some o' =>
                cases hd : o'.dst with
                | none => simp [hd]
                | some d =>
                  simp only [Option.bind_some, hd]
                  by_cases hlt : d < a.tmps.size
                  · have h2 := hu g' e3 (by omega) o' d hx hd hlt
                    rw [Array.getElem?_eq_getElem hlt]
                    rw [Array.getD_eq_getD_getElem?, Array.getElem?_eq_getElem hlt] at h2
                    simp only [Option.getD_some] at h2
                    rw [h2]; rfl
                  · rw [Array.getElem?_eq_none (Nat.le_of_not_lt hlt)]
            simp only [Region.wanted, hgd, this]
            rfl
          · omega
      rw [List.range'_succ, List.cons_append]
      simp only [wpOps, hoi, hgl.2, Bool.false_eq_true, if_false]
      have hsz : (a.put o.dst undef).tmps.size = a.tmps.size := by
        cases o.dst with
        | none => rfl
        | some d => simp [Act.put]
      refine ih (j + 1) m hs.tail hgl.1 n2 (a.put o.dst undef) (by rw [put_other n1]; exact ha) (by omega) ?_ ?_ js Q hq
      · intro q h1 h2 o' d ho' hd hlt
        by_cases e : o.dst = some d
        · rw [e, getD_put (by rw [hsz] at hlt; exact hlt), if_pos rfl]
        · rw [put_other e]
          by_cases hq' : q < j
          · exact hu q h1 hq' o' d ho' hd (by rw [hsz] at hlt; exact hlt)
          · have : q = j := by omega
            subst this
            rw [hoi] at ho'; cases ho'
            exact absurd hd e
      · intro a' h1 h2 h3
        refine hk a' (by rw [h1]; cases o.dst <;> rfl) (by rw [h2, hsz]) fun t ht => ?_
        obtain ⟨q1, q2⟩ := not_dsts ht
        rw [h3 t q2, put_other q1]
theorem isB_ok {F Hp : PH} {hs : List Value} {x : AV} {c : Bool} {v : Value} (h : isB x c) (hr : Rep F Hp hs x v) : v = .bool c := by
  unfold isB at h
  split at h
  · rw [hr.inv_tt, ← h]
  · rw [hr.inv_ff, ← h]
  · rw [hr.inv_val, ← h]
  · exact h.elim
theorem grpPick_ok {P : Program} {tg tl : Nat} {want alt : Bool} {p : Oper} (h : grpPick tg tl want p.op = some alt) {a : Act} {w : World} {cg b : Bool} (h1 : a.tmps.getD tg undef = .bool cg) (h2 : cg = want → a.tmps.getD tl undef = .bool b) :
    (execOp a.eval p).run P w = .ok (.value (.bool (selB want cg b alt))) w := by
  obtain ⟨dst, op, ty, pos, after, guard⟩ := p
  simp only at h
  unfold grpPick at h
  split at h
  · rename_i x y c
    split at h
    · rename_i e1 e2
      have e1 := beq_nat e1; have e2 := beq_nat e2
      subst e1 e2
      cases h
      have q1 : a.eval (.tmp x) = .bool cg := h1
      simp only [execOp, q1]
      cases cg with
      | true =>
        have q2 : a.eval (.tmp y) = .bool b := h2 rfl
        simp [asBool, q2, selB]
        cases alt <;> simp [selB]
      | false =>
        simp [asBool, selB]
        cases alt <;> simp [selB] <;> rfl
    · cases h
  · rename_i x c y
    split at h
    · rename_i e1 e2
      have e1 := beq_nat e1; have e2 := beq_nat e2
      subst e1 e2
      cases h
      have q1 : a.eval (.tmp x) = .bool cg := h1
      simp only [execOp, q1]
      cases cg with
      | false =>
        have q2 : a.eval (.tmp y) = .bool b := h2 rfl
        simp [asBool, q2, selB]
        cases alt <;> simp [selB]
      | true =>
        simp [asBool, selB]
        cases alt <;> simp [selB] <;> rfl
    · cases h
  · cases h
theorem lastD_mem : ∀ {l : List Oper} {t : Nat}, lastD l = some t → t ∈ dstsN l
  | [], _, h => by cases h
  | [o], t, h => by simp only [lastD] at h; simp [dstsN, h]
  | o :: p :: r, t, h => by
    have := lastD_mem (l := p :: r) (by simpa [lastD] using h)
    cases hd : o.dst with
    | none => rw [dstsN]; simp only [hd]; exact this
    | some d => rw [dstsN]; simp only [hd]; exact List.mem_cons_of_mem _ this
theorem wp_value {o : Oper} {a : Act} {w w' : World} {v : Value} {next : Act → World → Prop} {Q : Exit → Act → World → Prop} (h : (execOp a.eval o).run P w = .ok (.value v) w') (hn : next (a.put o.dst v) w') : o.wp P a w next Q := by
  unfold Oper.wp
  rw [h]
  exact hn
theorem dsts_cut {l : List Oper} {m : Nat} {t : Nat} (h : t ∉ dstsN l) : t ∉ dstsN (l.take m) ∧ t ∉ dstsN (l.drop m) := by
  have := dstsN_append (l.take m) (l.drop m)
  rw [List.take_append_drop] at this
  rw [this] at h
  exact ⟨fun e => h (List.mem_append_left _ e), fun e => h (List.mem_append_right _ e)⟩
theorem HStep.step {o : Oper} {ρ : Operand → AV} {M : List Blk} {av : AV} (h : HStep P o ρ M av) : StepOk P o ρ M av M := by
  intro w0 F Hp hs w a next Q hi hr hn
  refine h w0 F Hp hs hs M w a next Q (Ext.refl hi.len) hi hi hr fun Hp' w' v hle hi' _ hv => hn Hp' [] w' v hle ?_ ?_
  · rw [List.append_nil]; exact hi'
  · rw [List.append_nil]; exact hv
theorem evX_ok {hm : Bool} (hE : EnvOk P E) {o : Oper} {ρ : Operand → AV} {M : List Blk} {K : AV → List Blk → Prop} (h : evX hm E o.op ρ M K) : ∃ av M', K av M' ∧ StepOk P o ρ M av M' ∧ (hm = true → M' = M) := by
  unfold evX at h
  split at h
  · obtain ⟨av, hK, hs⟩ := evH_ok hE h
    exact ⟨av, M, hK, hs.step, fun _ => rfl⟩
  · obtain ⟨av, M', hK, hs⟩ := evW_ok hE h
    exact ⟨av, M', hK, hs, fun e => by cases e⟩
/-- nothing is frozen -/
theorem evPut_nil {dst : Option Nat} {av : AV} {fr : Fr} {M : List Blk} {J : Fr → List Blk → Prop} (h : evPut n [] dst av fr M J) : evPut n [] dst av fr M fun fr' M' => J fr' M' ∧ M' = M := by
  unfold evPut at h ⊢
  cases dst with
  | none => exact ⟨h, rfl⟩
  | some d =>
    simp only [hasN] at h ⊢
    cases hb : Nat.ble (d + 1) n with
    | true => simp only [hb] at h ⊢; exact ⟨h, trivial⟩
    | false => simp only [hb] at h
theorem frzAll_and {Pr : Prop} (hp : Pr) {J : Fr → List Blk → Prop} : ∀ (l : List Nat) {fr : Fr} {M : List Blk}, frzAll l fr M J → frzAll l fr M fun fr' M' => J fr' M' ∧ Pr
  | [], fr, M, h => ⟨h, hp⟩
  | m :: r, fr, M, h => by
    unfold frzAll at h ⊢
    split at h
    · exact frzAll_and hp r h
    · exact frzAll_and hp r h
theorem frzAll_imp {J J' : Fr → List Blk → Prop} (hj : ∀ fr M, J fr M → J' fr M) : ∀ (l : List Nat) {fr : Fr} {M : List Blk}, frzAll l fr M J → frzAll l fr M J'
  | [], fr, M, h => hj _ _ h
  | m :: r, fr, M, h => by
    unfold frzAll at h ⊢
    split at h
    · exact frzAll_imp hj r h
    · exact frzAll_imp hj r h
theorem evPut_keep {fz : List Nat} {hm : Bool} {dst : Option Nat} {av : AV} {fr : Fr} {M : List Blk} {J : Fr → List Blk → Prop} (h : evPut n fz dst av fr M J) : evPut n fz dst av fr M fun fr' M' => J fr' M' ∧ (hm = true → fz = [] → M' = M) := by
  unfold evPut at h ⊢
  split at h
  · exact ⟨h, fun _ _ => rfl⟩
  · split at h
    · rename_i e1 e2; exact ⟨h, fun _ _ => rfl⟩
    · rename_i e1 e2
      have e : fz ≠ [] := fun e => by subst e; cases e2
      have := frzAll_and (Pr := ¬ fz = []) e _ h
      refine frzAll_imp ?_ _ this
      exact fun fr' M' ⟨h1, h2⟩ => ⟨h1, fun _ e' => absurd e' h2⟩
    · exact h.elim
theorem evOps2_ok (hE : EnvOk P E) {hg : Bool} {ops : Array Oper} : ∀ (f i : Nat) (bm : Bool) (fz : List Nat) (r : List Oper), Seg ops i r → ∀ {fr : Fr} {M : List Blk} {K : Fr → List Blk → Prop}, evOps2 E n hg ops.toList bm fz f i r fr M K →
    ∃ fr' M', K fr' M' ∧ GoesO P n k (dstsN r) (RunT P ops (List.range' i r.length)) fr M fr' M' ∧ (bm = true → fz = [] → M' = M) := by
  intro f
  induction f with
  | zero => intro i bm fz r _ fr M K h; exact h.elim
  | succ f ih =>
    intro i bm fz l hseg fr M K h
    cases l with
    | nil => exact ⟨fr, M, h, fun w0 F Hp hs w a K hst hk js Q hq => by
        simp only [List.length_nil, List.range'_zero, List.nil_append]
        exact hq _ _ (hk Hp hs w a (PH.le.refl _) (HL.refl _) hst (fun _ _ => rfl)), fun _ _ => rfl⟩
    | cons o r =>
      simp only [evOps2] at h
      split at h
      · rename_i G hG
        obtain ⟨b, hbody, hp⟩ := h
        -- what the group is
        unfold grpAt at hG
        simp only at hG
        split at hG
        · cases hG
        rename_i g want hgd
        split at hG
        · cases hG
        rename_i tg htg
        split at hG
        · rename_i cg hcg
          split at hG
          · rename_i p rest tl hdrop hlast hnot
            split at hG
            · rename_i alt hpick
              cases hG
              simp only at hbody hp
              generalize hm : grpLen i g want i (o :: r) = m at *
              have hnot : tg ∉ dstsN ((o :: r).take m) := fun e => by
                have := hasN_iff.2 e
                rw [hnot] at this; cases this
              have hlen : m + 1 ≤ (o :: r).length := by
                have : ((o :: r).drop m).length = (p :: rest).length := by rw [hdrop]
                simp only [List.length_drop, List.length_cons] at this ⊢
                omega
              have hpi : ops[i + m]? = some p := by
                have := (hseg.drop m) 0 p (by rw [hdrop]; rfl)
                simpa using this
              have hrest : (o :: r).drop (m + 1) = rest := by
                have := congrArg (List.drop 1) hdrop
                simpa [List.drop_drop] using this
              rw [hrest] at hp
              have hseg' : Seg ops (i + m + 1) rest := by
                have := hseg.drop (m + 1)
                rwa [hrest, ← Nat.add_assoc] at this
              have hrl : rest.length = (o :: r).length - (m + 1) := by rw [← hrest, List.length_drop]
              have hdst : ∀ t, t ∉ dstsN (o :: r) → t ∉ dstsN ((o :: r).take m) ∧ p.dst ≠ some t ∧ t ∉ dstsN rest := by
                intro t ht
                obtain ⟨q1, q2⟩ := dsts_cut (m := m) ht
                rw [hdrop] at q2
                exact ⟨q1, not_dsts q2⟩
              -- through the group
              have hgrp : ∀ (w0 : Base P) F Hp hs w a (K : Act → World → Prop), StI n k w0 F Hp hs fr M w a →
                  (∀ Hp' w' a', Hp.le Hp' → StI n k w0 F Hp' hs (maskF ((o :: r).take m) fr) M w' a' → (∀ t, t ∉ dstsN ((o :: r).take m) → a'.tmps.getD t undef = a.tmps.getD t undef) → (cg = want → a'.tmps.getD tl undef = .bool b) → K a' w') →
                  RunT P ops (List.range' i m) K a w := by
                have hv : ∀ {w0 : Base P} {F Hp hs w a}, StI n k w0 F Hp hs fr M w a → a.tmps.getD tg undef = .bool cg := by
                  intro w0 F Hp hs w a hst
                  have := hst.tm tg
                  rw [hcg] at this
                  exact this.inv_val
                by_cases hc : cg = want
                · obtain ⟨fr1, M1, hend, hgo, hkeepM⟩ := ih i hg [] _ (hseg.take m) (hbody hc)
                  have hboth : M1.take M.length = M ∧ isB (fr1.get tl) b := by
                    unfold grpEnd at hend
                    split at hend
                    · refine ⟨?_, hend⟩
                      rw [hkeepM rfl rfl]; simp
                    · exact ⟨hend.1, hend.2⟩
                  obtain ⟨hsame, hb⟩ := hboth
                  intro w0 F Hp hs w a K hst hk
                  have hst0 : StI n k w0 F Hp hs (fr.put tg (ofB want)) M w a := by
                    refine hst.know ?_
                    rw [hv hst, hc]
                    cases want
                    · exact .ff
                    · exact .tt
                  have hl : ((o :: r).take m).length = m := by rw [List.length_take]; omega
                  rw [hl] at hgo
                  refine hgo w0 F Hp hs w a K hst0 fun Hp' hs' w' a' hle hhl hst' hkeep => ?_
                  refine hk Hp' w' a' hle ⟨hst'.inv.restrict hst.inv hhl hsame, hst'.dfr, hst'.sz, ?_, hst.kl⟩ hkeep (fun _ => isB_ok hb (hst'.tm tl))
                  exact mask_holds (tm := fun q => a'.tmps.getD q undef) _ fr fun t ht => by
                    show Rep F Hp' hs (fr.get t) (a'.tmps.getD t undef)
                    rw [hkeep t ht]
                    exact Rep.mono (PH.le.refl _) hle (HL.refl _) (hst.tm t)
                · intro w0 F Hp hs w a K hst hk
                  have hv' : a.tmps.getD tg undef = .bool (!want) := by
                    rw [hv hst]
                    cases cg <;> cases want <;> first | rfl | exact absurd rfl hc
                  refine skip_ok htg (o :: r) i m hseg (Nat.le_of_eq hm.symm) hnot a hv' (Nat.le_refl _) (fun q h1 h2 => by omega) fun a' h1 h2 h3 => ?_
                  refine hk Hp w a' (PH.le.refl _) ⟨hst.inv, by rw [h1]; exact hst.dfr, by rw [h2]; exact hst.sz, ?_, hst.kl⟩ h3 (fun e => absurd e hc)
                  exact mask_holds (tm := fun q => a'.tmps.getD q undef) _ fr fun t ht => by
                    show Rep F Hp hs (fr.get t) (a'.tmps.getD t undef)
                    rw [h3 t ht]
                    exact hst.tm t
              have hvg : ∀ {w0 : Base P} {F Hp hs w a}, StI n k w0 F Hp hs fr M w a → a.tmps.getD tg undef = .bool cg := by
                intro w0 F Hp hs w a hst
                have := hst.tm tg
                rw [hcg] at this
                exact this.inv_val
              have hsplit : List.range' i (o :: r).length = List.range' i m ++ (i + m) :: List.range' (i + m + 1) rest.length := by
                have e : (o :: r).length = m + (1 + rest.length) := by rw [hrl]; omega
                rw [e, ← List.range'_append_1, Nat.add_comm 1, List.range'_succ]
              obtain ⟨fr1, ⟨hy, hw⟩ | ⟨hy, hw⟩⟩ := evGd_ok (n := n) (k := k) hp
              · obtain ⟨fr2, M2, ⟨h3, hk2⟩, hput⟩ := evPut_ok (P := P) (n := n) (k := k) (evPut_keep (hm := bm) hy)
                obtain ⟨fr3, M3, hK, hgo, hk3⟩ := ih _ bm fz rest hseg' h3
                refine ⟨fr3, M3, hK, fun w0 F Hp hs w a K hst hk js Q hq => ?_, fun e1 e2 => (hk3 e1 e2).trans (hk2 e1 e2)⟩
                rw [hsplit, List.append_assoc]
                refine hgrp w0 F Hp hs w a (fun a w => wpOps P ops Q ((i + m) :: List.range' (i + m + 1) rest.length ++ js) a w) hst (fun Hp' w' a' hle hst' hkeep htl => ?_) _ Q (fun a w h => h)
                obtain ⟨hst1, hwant⟩ := hw w0 F Hp' hs w' a' hst'
                simp only [List.cons_append, wpOps, hpi, hwant, if_true]
                refine .inl (wp_value (grpPick_ok hpick (cg := cg) (b := b) (by rw [hkeep tg hnot]; exact hvg hst) htl) ?_)
                obtain ⟨Hp'', hle2, hst2⟩ := hput w0 F Hp' hs w' a' _ hst1 (.val _)
                refine hgo w0 F Hp'' hs w' _ K hst2 (fun Hp3 hs3 w3 a3 hle3 hl3 hst3 hsame3 => hk Hp3 hs3 w3 a3 ((hle.trans hle2).trans hle3) hl3 hst3 fun t ht => ?_) js Q hq
                obtain ⟨q1, q2, q3⟩ := hdst t ht
                rw [hsame3 t q3, put_other q2, hkeep t q1]
              · obtain ⟨fr2, M2, ⟨h3, hk2⟩, hput⟩ := evPut_ok (P := P) (n := n) (k := k) (evPut_nil hy)
                obtain ⟨fr3, M3, hK, hgo, hk3⟩ := ih _ bm fz rest hseg' h3
                refine ⟨fr3, M3, hK, fun w0 F Hp hs w a K hst hk js Q hq => ?_, fun e1 e2 => (hk3 e1 e2).trans (hk2)⟩
                rw [hsplit, List.append_assoc]
                refine hgrp w0 F Hp hs w a (fun a w => wpOps P ops Q ((i + m) :: List.range' (i + m + 1) rest.length ++ js) a w) hst (fun Hp' w' a' hle hst' hkeep htl => ?_) _ Q (fun a w h => h)
                obtain ⟨hst1, hwant⟩ := hw w0 F Hp' hs w' a' hst'
                simp only [List.cons_append, wpOps, hpi, hwant, Bool.false_eq_true, if_false]
                obtain ⟨Hp'', hle2, hst2⟩ := hput w0 F Hp' hs w' a' undef hst1 (.val _)
                refine hgo w0 F Hp'' hs w' _ K hst2 (fun Hp3 hs3 w3 a3 hle3 hl3 hst3 hsame3 => hk Hp3 hs3 w3 a3 ((hle.trans hle2).trans hle3) hl3 hst3 fun t ht => ?_) js Q hq
                obtain ⟨q1, q2, q3⟩ := hdst t ht
                rw [hsame3 t q3, put_other q2, hkeep t q1]
            · cases hG
          · cases hG
        · cases hG
      · obtain ⟨fr1, ⟨hy, hw⟩ | ⟨hy, hw⟩⟩ := evGd_ok (n := n) (k := k) h
        · obtain ⟨av, M1, h2, hstep, hkx⟩ := evX_ok hE hy
          obtain ⟨fr2, M2, ⟨h3, hk2⟩, hput⟩ := evPut_ok (P := P) (n := n) (k := k) (evPut_keep (hm := bm) h2)
          obtain ⟨fr3, M3, hK, hgo, hk3⟩ := ih (i + 1) bm fz r hseg.tail h3
          refine ⟨fr3, M3, hK, fun w0 F Hp hs w a K hst hk js Q hq => ?_, fun e1 e2 => ((hk3 e1 e2).trans (hk2 e1 e2)).trans (hkx e1)⟩
          obtain ⟨hst1, hwant⟩ := hw w0 F Hp hs w a hst
          simp only [List.length_cons, List.range'_succ, List.cons_append, wpOps, hseg.head, hwant, if_true]
          refine .inl (hst1.step hstep hput fun Hp' hs' w' v hle hl hst' => ?_)
          exact hgo w0 F Hp' hs' w' _ _ hst' (fun Hp'' hs'' w'' a'' hle' hl' hst'' hsame => hk Hp'' hs'' w'' a'' (hle.trans hle') (hl.trans hl') hst''
            (fun t ht => by obtain ⟨q1, q2⟩ := not_dsts ht; rw [hsame t q2, put_other q1])) js Q hq
        · obtain ⟨fr2, M2, ⟨h3, hk2⟩, hput⟩ := evPut_ok (P := P) (n := n) (k := k) (evPut_nil hy)
          obtain ⟨fr3, M3, hK, hgo, hk3⟩ := ih (i + 1) bm fz r hseg.tail h3
          refine ⟨fr3, M3, hK, fun w0 F Hp hs w a K hst hk js Q hq => ?_, fun e1 e2 => (hk3 e1 e2).trans hk2⟩
          obtain ⟨hst1, hwant⟩ := hw w0 F Hp hs w a hst
          simp only [List.length_cons, List.range'_succ, List.cons_append, wpOps, hseg.head, hwant, Bool.false_eq_true, if_false]
          obtain ⟨Hp', hle, hst'⟩ := hput w0 F Hp hs w a undef hst1 (.val _)
          exact hgo w0 F Hp' hs w _ _ hst' (fun Hp'' hs'' w'' a'' hle' hl' hst'' hsame => hk Hp'' hs'' w'' a'' (hle.trans hle') hl' hst''
            (fun t ht => by obtain ⟨q1, q2⟩ := not_dsts ht; rw [hsame t q2, put_other q1])) js Q hq
/-- a region, with groups -/
theorem evReg2_ok (hE : EnvOk P E) {fz : List Nat} {ops : Array Oper} {fr : Fr} {M : List Blk} {K : Fr → List Blk → Prop} {hg : Bool} {f : Nat} (h : evOps2 E n hg ops.toList false fz f 0 ops.toList fr M K) :
    ∃ fr' M', K fr' M' ∧ GoesO P n k (dstsN ops.toList) (RunOps P ops (List.range ops.size)) fr M fr' M' := by
  obtain ⟨fr', M', hK, hgo, _⟩ := evOps2_ok (k := k) hE f 0 false fz ops.toList (fun j o hj => by rw [Nat.zero_add, ← Array.getElem?_toList]; exact hj) h
  refine ⟨fr', M', hK, fun w0 F Hp hs w a K hst hk Q hq => ?_⟩
  rw [List.range_eq_range']
  have := hgo w0 F Hp hs w a K hst hk [] Q (fun a w h => hq a w h)
  simpa using this
end Go.Sx
end
section
namespace Go.Sx
open Go
variable {P : Program} {E : Env} {n k : Nat}

/-! a state that is led into a loop's own form: which names stand for which -/
structure Mt where
  a : List (Nat × Nat)
  nils : List Kd
def lookA : List (Nat × Nat) → Nat → Option Nat
  | [], _ => none
  | (i, j) :: r, m => match Nat.beq i m with
    | true => some j
    | false => lookA r m
def Mt.bind (s : Mt) (i j : Nat) : Mt :=
  match lookA s.a i with
  | some _ => s
  | none => ⟨(i, j) :: s.a, s.nils⟩
def mtL (tM : List Blk) (lenM : Nat) (s : Mt) (tgt cur : AV) : Mt :=
  match tgt, cur with
  | .own i, .own j => s.bind i j
  | .own i, .val (.slice none 0 0) => match lookA s.a i with
    | some _ => s
    | none => match tM[i]? with
      | some (.arr k _) => ⟨(i, lenM + s.nils.length) :: s.a, s.nils ++ [k]⟩
      | _ => s
  | .ptr i _, .ptr j _ => s.bind i j
  | .ep i _ _ _, .ep j _ _ _ => s.bind i j
  | .es i _ _ _ _, .es j _ _ _ _ => s.bind i j
  | _, _ => s
def mtLs (tM : List Blk) (lenM : Nat) : Mt → List AV → List AV → Mt
  | s, t :: ts, c :: cs => mtLs tM lenM (mtL tM lenM s t c) ts cs
  | s, _, _ => s
def mt1 (tM : List Blk) (lenM : Nat) (s : Mt) (tgt cur : AV) : Mt :=
  match tgt, cur with
  | .agg ts, .agg cs => mtLs tM lenM s ts cs
  | t, c => mtL tM lenM s t c
def mtFr (tM : List Blk) (lenM : Nat) (fr : Fr) : Mt → Fr → Mt
  | s, [] => s
  | s, (t, av) :: r => mtFr tM lenM fr (mt1 tM lenM s av (fr.get t)) r
def mtFl (tM M : List Blk) : Nat → Mt → List Blk → Mt
  | _, s, [] => s
  | i, s, .flat ts :: r => match lookA s.a i with
    | some j => match M[j]? with
      | some (.flat cs) => mtFl tM M (i + 1) (mtLs tM M.length s ts cs) r
      | _ => mtFl tM M (i + 1) s r
    | none => mtFl tM M (i + 1) s r
  | i, s, _ :: r => mtFl tM M (i + 1) s r
def pinA : Nat → List (Nat × Nat)
  | 0 => []
  | k + 1 => (k, k) :: pinA k
def mtAll (k : Nat) (tfr : Fr) (tM : List Blk) (fr : Fr) (M : List Blk) : Mt :=
  mtFl tM M 0 (mtFl tM M 0 (mtFr tM M.length fr ⟨pinA k, []⟩ tfr) tM) tM
def nsOf (s : Mt) : Nat → Nat → Option (List Nat)
  | _, 0 => some []
  | i, m + 1 => match lookA s.a i, nsOf s (i + 1) m with
    | some j, some l => some (j :: l)
    | _, _ => none
def pinsOk : Nat → Nat → List Nat → Bool
  | _, 0, _ => true
  | i, k + 1, j :: l => match Nat.beq i j with
    | true => pinsOk (i + 1) k l
    | false => false
  | _, _ + 1, [] => false

def cmp0 (ns : List Nat) (lenM tot : Nat) (tgt cur : AV) (G : Prop) : Prop :=
  match tgt, cur with
  | .top, _ => G
  | .val (.int k n), .val (.int k' n') => match decide (k' = k) with
    | true => n' = n ∧ G
    | false => False
  | .val (.bool b), .tt => b = true ∧ G
  | .val (.bool b), .ff => b = false ∧ G
  | .tt, .tt => G
  | .ff, .ff => G
  | .tt, .val (.bool b) => b = true ∧ G
  | .ff, .val (.bool b) => b = false ∧ G
  | .val (.string s), .val (.string s') => s' = s ∧ G
  | .val (.bool b), .val (.bool b') => b' = b ∧ G
  | .val v, .val v' => v' = v ∧ G
  | .sl k xs, .sl _ xs' => match castL (k := k) xs' with
    | some xs' => xs' = xs ∧ G
    | none => False
  | .sl _ xs, .val (.slice none 0 0) => [] = xs ∧ G
  | .lt k xs, .lt _ xs' => match castL (k := k) xs' with
    | some xs' => xs' = xs ∧ G
    | none => False
  | .lt k xs, .sl _ xs' => match castL (k := k) xs' with
    | some xs' => xs' = xs ∧ G
    | none => False
  | .lt _ xs, .val (.slice none 0 0) => [] = xs ∧ G
  | .own i, .own j => match Nat.beq i j with
    | true => G
    | false => False
  | .own i, .val (.slice none 0 0) => match ns[i]? with
    | some j => match Nat.ble lenM j, Nat.ble (j + 1) tot with
      | true, true => G
      | _, _ => False
    | none => False
  | .ptr i o, .ptr j o' => match Nat.beq i j with
    | true => o' = o ∧ G
    | false => False
  | .ep i sz x o, .ep j sz' x' o' => match Nat.beq i j with
    | true => (sz' = sz ∧ x' = x ∧ o' = o) ∧ G
    | false => False
  | .es i sz x l c, .es j sz' x' l' c' => match Nat.beq i j with
    | true => (sz' = sz ∧ x' = x ∧ l' = l ∧ c' = c) ∧ G
    | false => False
  | _, _ => False
def cmpLs (ns : List Nat) (lenM tot : Nat) : List AV → List AV → Prop → Prop
  | [], [], G => G
  | t :: ts, c :: cs, G => cmp0 ns lenM tot t c (cmpLs ns lenM tot ts cs G)
  | _, _, _ => False
def cmp1 (ns : List Nat) (lenM tot : Nat) (tgt cur : AV) (G : Prop) : Prop :=
  match tgt, cur with
  | .agg ts, .agg cs => cmpLs ns lenM tot ts cs G
  | .rp ts o, .rp cs o' => cmpLs ns lenM tot ts cs (o' = o ∧ G)
  | t, c => cmp0 ns lenM tot t c G
def cmpB (ns : List Nat) (lenM tot : Nat) (tgt cur : Blk) (G : Prop) : Prop :=
  match tgt, cur with
  | .dead, _ => G
  | .arr k xs, .arr _ xs' => match castL (k := k) xs' with
    | some xs' => xs' = xs ∧ G
    | none => False
  | .flat ts, .flat cs => cmpLs ns lenM tot ts cs G
  | .strIt s p, .strIt s' p' => (s' = s ∧ p' = p) ∧ G
  | _, _ => False
def cmpM (ns : List Nat) (lenM tot : Nat) : List Blk → List Blk → Prop → Prop
  | [], [], G => G
  | t :: ts, c :: cs, G => cmpB ns lenM tot t c (cmpM ns lenM tot ts cs G)
  | _, _, _ => False
def cmpF (ns : List Nat) (lenM tot : Nat) (fr : Fr) : Fr → Prop → Prop
  | [], G => G
  | (t, av) :: r, G => cmp1 ns lenM tot av (ren2 true (idxN ns) (fr.get t)) (cmpF ns lenM tot fr r G)
/-- names that are given up stand for none -/
def maskN : Nat → List Nat → List Blk → List Nat
  | i, _ :: ns, .dead :: tM => i :: maskN (i + 1) ns tM
  | i, n :: ns, _ :: tM => n :: maskN (i + 1) ns tM
  | _, _, _ => []
def enters (k : Nat) (tfr : Fr) (tM : List Blk) (fr : Fr) (M : List Blk) (G : Prop) : Prop :=
  (fun s : Mt => match nsOf s 0 tM.length with
    | some ns => (fun M1 => (fun nl => match below M1.length ns, ndN nl, pinsOk 0 k ns with
      | true, true, true => cmpM nl M.length M1.length tM (locM nl M1) (cmpF nl M.length M1.length fr tfr G)
      | _, _, _ => False) (maskN M1.length ns tM)) (M ++ nilsM s.nils)
    | none => False) (mtAll k tfr tM fr M)

section
variable {w0 : Base P} {w : World} {F Hp : PH} {hs : List Value} {M : List Blk} {ns : List Nat}
theorem InvS.weaken {M' : List Blk} (h : InvS w0 F Hp hs M w) (hl : M'.length = M.length)
    (hb : ∀ (i : Nat) b b' v, M[i]? = some b → M'[i]? = some b' → hs[i]? = some v → b' = .dead ∨ (b.live = true ∧ (BlkAt F Hp hs w v b → BlkAt F Hp hs w v b'))) : InvS w0 F Hp hs M' w := by
  have key : ∀ {i : Nat} {b' : Blk}, M'[i]? = some b' → ∃ b, M[i]? = some b := by
    intro i b' h'
    have := (List.getElem?_eq_some_iff.1 h').1
    exact ⟨_, List.getElem?_eq_getElem (by omega)⟩
  refine ⟨h.perm, h.fr, h.pf, by rw [hl]; exact h.len, h.one, ?_, ?_, ?_, h.os, h.tape, h.output, h.gl⟩
  · intro i b' v h1 h2
    obtain ⟨b, h3⟩ := key h1
    rcases hb i b b' v h3 h1 h2 with rfl | ⟨_, h4⟩
    · trivial
    · exact h4 (h.blk i b v h3 h2)
  · intro i b' v a h1 h2 h3 h4
    obtain ⟨b, h5⟩ := key h1
    rcases hb i b b' v h5 h1 h3 with rfl | ⟨h6, _⟩
    · simp [Blk.live] at h2
    · exact h.own i b v a h5 h6 h3 h4
  · intro i j bi bj vi vj a h1 h2 l1 l2 g1 g2 i1 i2
    obtain ⟨b, h5⟩ := key h1
    obtain ⟨c, h6⟩ := key h2
    rcases hb i b bi vi h5 h1 g1 with rfl | ⟨h7, _⟩
    · simp [Blk.live] at l1
    rcases hb j c bj vj h6 h2 g2 with rfl | ⟨h8, _⟩
    · simp [Blk.live] at l2
    exact h.inj i j b c vi vj a h5 h6 h7 h8 g1 g2 i1 i2
/-- the nil names' handles -/
def NilsAt (ns : List Nat) (lenM tot : Nat) (hs : List Value) : Prop := ∀ (i j : Nat), ns[i]? = some j → lenM ≤ j → j < tot → hs[i]? = some nilV
theorem cmp0_ok {lenM tot : Nat} {tgt cur : AV} {G : Prop} (h : cmp0 ns lenM tot tgt cur G) : G ∧ ∀ F Hp hs v, NilsAt ns lenM tot hs → Rep F Hp hs cur v → Rep F Hp hs tgt v := by
  unfold cmp0 at h
  split at h
  · exact ⟨h, fun F Hp hs v _ _ => .top v⟩
  · split at h
    · rename_i e
      have e := of_decide_eq_true e
      subst e
      obtain ⟨rfl, hG⟩ := h
      exact ⟨hG, fun F Hp hs v _ hr => hr⟩
    · exact h.elim
  · obtain ⟨rfl, hG⟩ := h
    exact ⟨hG, fun F Hp hs v _ hr => by cases hr.inv_tt; exact .val _⟩
  · obtain ⟨rfl, hG⟩ := h
    exact ⟨hG, fun F Hp hs v _ hr => by cases hr.inv_ff; exact .val _⟩
  · exact ⟨h, fun F Hp hs v _ hr => hr⟩
  · exact ⟨h, fun F Hp hs v _ hr => hr⟩
  · obtain ⟨rfl, hG⟩ := h
    exact ⟨hG, fun F Hp hs v _ hr => by cases hr.inv_val; exact .tt⟩
  · obtain ⟨rfl, hG⟩ := h
    exact ⟨hG, fun F Hp hs v _ hr => by cases hr.inv_val; exact .ff⟩
  · obtain ⟨rfl, hG⟩ := h
    exact ⟨hG, fun F Hp hs v _ hr => hr⟩
  · obtain ⟨rfl, hG⟩ := h
    exact ⟨hG, fun F Hp hs v _ hr => hr⟩
  · obtain ⟨rfl, hG⟩ := h
    exact ⟨hG, fun F Hp hs v _ hr => hr⟩
  · split at h
    · rename_i hc
      obtain ⟨e, rfl⟩ := castL_some hc
      subst e
      obtain ⟨rfl, hG⟩ := h
      exact ⟨hG, fun F Hp hs v _ hr => hr⟩
    · exact h.elim
  · obtain ⟨rfl, hG⟩ := h
    exact ⟨hG, fun F Hp hs v _ hr => by cases hr.inv_val; exact Rep.nil_sl _⟩
  · split at h
    · rename_i hc
      obtain ⟨e, rfl⟩ := castL_some hc
      subst e
      obtain ⟨rfl, hG⟩ := h
      exact ⟨hG, fun F Hp hs v _ hr => hr⟩
    · exact h.elim
  · split at h
    · rename_i hc
      obtain ⟨e, rfl⟩ := castL_some hc
      subst e
      obtain ⟨rfl, hG⟩ := h
      exact ⟨hG, fun F Hp hs v _ hr => hr.sl_lt⟩
    · exact h.elim
  · obtain ⟨rfl, hG⟩ := h
    exact ⟨hG, fun F Hp hs v _ hr => by cases hr.inv_val; exact (Rep.nil_sl _).sl_lt⟩
  · split at h
    · rename_i e
      have e := beq_nat e
      subst e
      exact ⟨h, fun F Hp hs v _ hr => hr⟩
    · exact h.elim
  · split at h
    · rename_i j hj
      split at h
      · rename_i hb hb2
        refine ⟨h, fun F Hp hs v hn hr => ?_⟩
        cases hr.inv_val
        exact .own _ _ (hn _ j hj (Nat.le_of_ble_eq_true hb) (Nat.le_of_ble_eq_true hb2))
      · exact h.elim
    · exact h.elim
  · split at h
    · rename_i e
      have e := beq_nat e
      subst e
      obtain ⟨rfl, hG⟩ := h
      exact ⟨hG, fun F Hp hs v _ hr => hr⟩
    · exact h.elim
  · split at h
    · rename_i e
      have e := beq_nat e
      subst e
      obtain ⟨⟨rfl, rfl, rfl⟩, hG⟩ := h
      exact ⟨hG, fun F Hp hs v _ hr => hr⟩
    · exact h.elim
  · split at h
    · rename_i e
      have e := beq_nat e
      subst e
      obtain ⟨⟨rfl, rfl, rfl, rfl⟩, hG⟩ := h
      exact ⟨hG, fun F Hp hs v _ hr => hr⟩
    · exact h.elim
  · exact h.elim
theorem cmpLs_ok {lenM tot : Nat} : ∀ {ts cs : List AV} {G : Prop}, cmpLs ns lenM tot ts cs G → G ∧ ∀ F Hp hs vs, NilsAt ns lenM tot hs → Reps F Hp hs cs vs → Reps F Hp hs ts vs
  | [], [], G, h => ⟨h, fun F Hp hs vs _ hr => hr⟩
  | [], _ :: _, G, h => by simp [cmpLs] at h
  | _ :: _, [], G, h => by simp [cmpLs] at h
  | t :: ts, c :: cs, G, h => by
    simp only [cmpLs] at h
    obtain ⟨h', h1⟩ := cmp0_ok h
    obtain ⟨hG, h2⟩ := cmpLs_ok h'
    refine ⟨hG, fun F Hp hs vs hn hr => ?_⟩
    obtain ⟨u, v', rfl, q1, q2⟩ := Reps.inv_cons hr
    exact .cons (h1 F Hp hs u hn q1) (h2 F Hp hs v' hn q2)
theorem cmp1_ok {lenM tot : Nat} {tgt cur : AV} {G : Prop} (h : cmp1 ns lenM tot tgt cur G) : G ∧ ∀ F Hp hs v, NilsAt ns lenM tot hs → Rep F Hp hs cur v → Rep F Hp hs tgt v := by
  unfold cmp1 at h
  split at h
  · obtain ⟨hG, h1⟩ := cmpLs_ok h
    refine ⟨hG, fun F Hp hs v hn hr => ?_⟩
    obtain ⟨vs, rfl, g⟩ := hr.inv_agg
    exact .agg _ _ (h1 F Hp hs vs hn g)
  · obtain ⟨⟨rfl, hG⟩, h1⟩ := cmpLs_ok h
    refine ⟨hG, fun F Hp hs v hn hr => ?_⟩
    cases hr with
    | rp _ _ a vs g hc => exact .rp _ _ a vs (h1 F Hp hs vs hn g) hc
  · exact cmp0_ok h
theorem cmpB_ok {lenM tot : Nat} {tgt cur : Blk} {G : Prop} (h : cmpB ns lenM tot tgt cur G) : G ∧ (tgt = .dead ∨ (cur.live = true ∧ ∀ F Hp hs w v, NilsAt ns lenM tot hs → BlkAt F Hp hs w v cur → BlkAt F Hp hs w v tgt)) := by
  unfold cmpB at h
  split at h
  · exact ⟨h, .inl rfl⟩
  · split at h
    · rename_i hc
      obtain ⟨e, rfl⟩ := castL_some hc
      subst e
      obtain ⟨rfl, hG⟩ := h
      exact ⟨hG, .inr ⟨rfl, fun F Hp hs w v _ hr => hr⟩⟩
    · exact h.elim
  · obtain ⟨hG, h1⟩ := cmpLs_ok h
    refine ⟨hG, .inr ⟨rfl, fun F Hp hs w v hn hr => ?_⟩⟩
    obtain ⟨b, T, vs, e, g1, g2⟩ := hr
    exact ⟨b, T, vs, e, g1, h1 F Hp hs vs hn g2⟩
  · obtain ⟨⟨rfl, rfl⟩, hG⟩ := h
    exact ⟨hG, .inr ⟨rfl, fun F Hp hs w v _ hr => hr⟩⟩
  · exact h.elim
theorem cmpM_ok {lenM tot : Nat} : ∀ {ts cs : List Blk} {G : Prop}, cmpM ns lenM tot ts cs G → G ∧ ts.length = cs.length ∧ ∀ (i : Nat) b b', cs[i]? = some b → ts[i]? = some b' → b' = .dead ∨ (b.live = true ∧ ∀ F Hp hs w v, NilsAt ns lenM tot hs → BlkAt F Hp hs w v b → BlkAt F Hp hs w v b')
  | [], [], G, h => ⟨h, rfl, fun i b b' h => by simp at h⟩
  | [], _ :: _, G, h => by simp [cmpM] at h
  | _ :: _, [], G, h => by simp [cmpM] at h
  | t :: ts, c :: cs, G, h => by
    simp only [cmpM] at h
    obtain ⟨h', h1⟩ := cmpB_ok h
    obtain ⟨hG, hl, h2⟩ := cmpM_ok h'
    refine ⟨hG, by simp [hl], fun i b b' q1 q2 => ?_⟩
    cases i with
    | zero => simp at q1 q2; subst q1; subst q2; exact h1
    | succ i => exact h2 i b b' (by simpa using q1) (by simpa using q2)
theorem cmpF_ok {lenM tot : Nat} {fr : Fr} : ∀ {tfr : Fr} {G : Prop}, cmpF ns lenM tot fr tfr G → G ∧ ∀ F Hp hs (tm : Nat → Value), NilsAt ns lenM tot hs → (∀ t, Rep F Hp hs (ren2 true (idxN ns) (fr.get t)) (tm t)) → ∀ t, Rep F Hp hs (tfr.get t) (tm t)
  | [], G, h => ⟨h, fun F Hp hs tm _ _ t => .top _⟩
  | (s, av) :: r, G, h => by
    simp only [cmpF] at h
    obtain ⟨h', h1⟩ := cmp1_ok h
    obtain ⟨hG, h2⟩ := cmpF_ok h'
    refine ⟨hG, fun F Hp hs tm hn hr t => ?_⟩
    simp only [Fr.get]
    split
    · rename_i e
      have e := beq_nat e
      subst e
      exact h1 F Hp hs _ hn (hr s)
    · exact h2 F Hp hs tm hn hr t
theorem pinsOk_ok : ∀ {k i : Nat} {l : List Nat}, pinsOk i k l = true → ∀ m, m < k → l[m]? = some (i + m)
  | 0, i, l, h, m, hm => by omega
  | k + 1, i, [], h, m, hm => by simp [pinsOk] at h
  | k + 1, i, j :: l, h, m, hm => by
    simp only [pinsOk] at h
    split at h
    · rename_i e
      have e := beq_nat e
      subst e
      cases m with
      | zero => rfl
      | succ m =>
        have := pinsOk_ok h m (by omega)
        simp only [List.getElem?_cons_succ, this]
        congr 1; omega
    · cases h
theorem maskN_get : ∀ {ns : List Nat} {tM : List Blk} {i m n : Nat}, (maskN m ns tM)[i]? = some n → ns.length = tM.length → n < m → ns[i]? = some n
  | [], tM, i, m, n, h, _, _ => by simp [maskN] at h
  | _ :: _, [], i, m, n, h, hl, _ => by simp at hl
  | a :: ns, b :: tM, i, m, n, h, hl, hn => by
    have hl' : ns.length = tM.length := by simpa using hl
    cases i with
    | zero =>
      cases b <;> simp [maskN] at h <;> first | (subst h; rfl) | omega
    | succ i =>
      have h' : (maskN (m + 1) ns tM)[i]? = some n := by cases b <;> simpa [maskN] using h
      have := maskN_get h' hl' (by omega)
      simpa using this
theorem maskN_len : ∀ {ns : List Nat} {tM : List Blk} {m : Nat}, ns.length = tM.length → (maskN m ns tM).length = ns.length
  | [], tM, m, _ => by simp [maskN]
  | _ :: _, [], m, hl => by simp at hl
  | a :: ns, b :: tM, m, hl => by
    have hl' : ns.length = tM.length := by simpa using hl
    have := maskN_len (m := m + 1) hl'
    cases b <;> simp [maskN, this]
theorem InvS.sub2 (hi : InvS w0 F Hp hs M w) {nl : List Nat} (hlen : nl.length = ns.length) (hnd : nl.Nodup) (hlt : ∀ n ∈ ns, n < M.length) (hnl : ∀ (i n : Nat), nl[i]? = some n → n < M.length → ns[i]? = some n) : InvS w0 F Hp (locH ns hs) (locM nl M) w := by
  have hleads : Leads (idxN nl) hs (locH ns hs) := by
    intro n m v h1 h2
    have h := idxN_ok h1
    have hn : n < M.length := by rw [← hi.len]; exact (List.getElem?_eq_some_iff.1 h2).1
    have h' := hnl m n h hn
    rw [locH_get h' (by rw [hi.len]; exact hn)]; exact h2
  have hget : ∀ {i : Nat} {blk : Blk} {v : Value}, (locM nl M)[i]? = some blk → blk.live = true → (locH ns hs)[i]? = some v → ∃ n b, nl[i]? = some n ∧ M[n]? = some b ∧ hs[n]? = some v ∧ blk = renB true (idxN nl) b := by
    intro i blk v h1 hl h2
    unfold locM at h1
    rw [List.getElem?_map] at h1
    cases hn : nl[i]? with
    | none => rw [hn] at h1; cases h1
    | some n =>
      rw [hn] at h1
      have h1 : renB true (idxN nl) (M.getD n .dead) = blk := by simpa using h1
      by_cases hlt' : n < M.length
      · have h' := hnl i n hn hlt'
        rw [locH_get h' (by rw [hi.len]; exact hlt')] at h2
        refine ⟨n, _, rfl, List.getElem?_eq_getElem hlt', h2, ?_⟩
        rw [← h1]; simp [List.getD, List.getElem?_eq_getElem hlt']
      · rw [List.getD, List.getElem?_eq_none (by omega)] at h1
        subst h1
        simp [renB, Blk.live] at hl
  refine ⟨hi.perm, hi.fr, hi.pf, by simp [locH, locM, hlen], ?_, ?_, ?_, ?_, hi.os, hi.tape, hi.output, hi.gl⟩
  · intro v hv
    unfold locH at hv
    obtain ⟨n, hn, rfl⟩ := List.mem_map.1 hv
    have := hlt n hn
    rw [← hi.len] at this
    have e : hs[n]? = some (hs.getD n undef) := by simp [List.getD, List.getElem?_eq_getElem this]
    exact hi.one _ (List.mem_of_getElem? e)
  · intro i blk v h1 h2
    by_cases hl : blk.live = true
    · obtain ⟨n, b, e1, e2, e3, rfl⟩ := hget h1 hl h2
      exact renB_ok (fun _ => PH.le.refl _) hleads (hi.blk n b v e2 e3)
    · cases blk <;> simp [Blk.live] at hl
      trivial
  · intro i blk v b h1 hl h2 hb
    obtain ⟨n, b', e1, e2, e3, rfl⟩ := hget h1 hl h2
    exact hi.own n b' v b e2 (by rwa [renB_live] at hl) e3 hb
  · intro i j bi bj vi vj b h1 h2 l1 l2 g1 g2 i1 i2
    obtain ⟨n, b1, e1, e2, e3, rfl⟩ := hget h1 l1 g1
    obtain ⟨m, b2, e4, e5, e6, rfl⟩ := hget h2 l2 g2
    have := hi.inj n m b1 b2 vi vj b e2 e5 (by rwa [renB_live] at l1) (by rwa [renB_live] at l2) e3 e6 i1 i2
    subst this
    exact nodup_get hnd e1 e4
theorem nsOf_len {s : Mt} : ∀ {m i : Nat} {l : List Nat}, nsOf s i m = some l → l.length = m
  | 0, i, l, h => by simp [nsOf] at h; subst h; rfl
  | m + 1, i, l, h => by
    simp only [nsOf] at h
    split at h
    · rename_i j l' h1 h2
      cases h
      simp [nsOf_len h2]
    · cases h
theorem enters_ok {tfr fr : Fr} {tM M : List Blk} {G : Prop} (h : enters k tfr tM fr M G) : G ∧ ∀ (w0 : Base P) F Hp hs w a, StI n k w0 F Hp hs fr M w a →
    ∃ hs', (∀ i : Nat, i < k → hs'[i]? = hs[i]?) ∧ StI n k w0 F Hp hs' tfr tM w a := by
  unfold enters at h
  generalize mtAll k tfr tM fr M = s at h
  simp only at h
  split at h
  · rename_i ns hns
    have hnl := nsOf_len hns
    split at h
    · rename_i hok hndb hpin
      have hlt := below_ok hok
      have hnd := ndN_ok hndb
      obtain ⟨h', hl, hM⟩ := cmpM_ok h
      obtain ⟨hG, hF⟩ := cmpF_ok h'
      have hp := pinsOk_ok hpin
      refine ⟨hG, fun w0 F Hp hs w a hst => ?_⟩
      have h1 := hst.inv.addNils s.nils
      have hlen1 : (hs ++ s.nils.map fun _ => nilV).length = (M ++ nilsM s.nils).length := h1.len
      have hmask : ∀ (i m : Nat), (maskN (M ++ nilsM s.nils).length ns tM)[i]? = some m → m < (M ++ nilsM s.nils).length → ns[i]? = some m := fun i m h hm => maskN_get h hnl hm
      have h2 := h1.sub2 (maskN_len hnl) hnd hlt hmask
      have hleads : Leads (idxN (maskN (M ++ nilsM s.nils).length ns tM)) (hs ++ s.nils.map fun _ => nilV) (locH ns (hs ++ s.nils.map fun _ => nilV)) := by
        intro a b v q1 q2
        have h := idxN_ok q1
        have hn : a < (M ++ nilsM s.nils).length := by rw [← hlen1]; exact (List.getElem?_eq_some_iff.1 q2).1
        rw [locH_get (hmask _ _ h hn) (by rw [hlen1]; exact hn)]; exact q2
      have hnil : NilsAt (maskN (M ++ nilsM s.nils).length ns tM) M.length (M ++ nilsM s.nils).length (locH ns (hs ++ s.nils.map fun _ => nilV)) := by
        intro i j hi hj hjl
        rw [locH_get (hmask i j hi hjl) (by omega), List.getElem?_append_right (by rw [hst.inv.len]; exact hj), List.getElem?_map]
        have : j - hs.length < s.nils.length := by
          rw [hst.inv.len]
          simp [nilsM] at hjl
          omega
        rw [List.getElem?_eq_getElem this]; rfl
      refine ⟨locH ns (hs ++ s.nils.map fun _ => nilV), fun i hi => ?_, ?_, hst.dfr, hst.sz, ?_, ?_⟩
      · have := hp i hi
        rw [Nat.zero_add] at this
        have hkl := hst.kl
        rw [locH_get this (by simp; omega), List.getElem?_append_left (by omega)]
      · refine h2.weaken (by rw [hl]) fun i b b' v q1 q2 q3 => ?_
        rcases hM i b b' q1 q2 with h | ⟨h3, h4⟩
        · exact .inl h
        · exact .inr ⟨h3, h4 F Hp _ w v hnil⟩
      · refine hF F Hp _ _ hnil fun t => ?_
        exact ren2_ok (fun _ => PH.le.refl _) hleads (Rep.mono (PH.le.refl _) (PH.le.refl _) (HL.append _ _) (hst.tm t))
      · have hkl := hst.kl
        have : k ≤ ns.length := by
          cases k with
          | zero => omega
          | succ k =>
            have := (List.getElem?_eq_some_iff.1 (hp k (by omega))).1
            omega
        simpa [locH] using this
    · exact h.elim
  · exact h.elim
end
end Go.Sx
end
section
namespace Go.Sx
open Go
variable {P : Program} {E : Env} {n k : Nat}

/-! code -/
structure Lp where
  X : Type
  fr : X → Fr
  M : X → List Blk
  inv : X → Prop
  mu : X → Nat
  rel : X → X → Prop := fun _ x => inv x
/-- the form of what is told -/
structure Lr where
  X : Type
  l : X → List AV
  M : X → List Blk
structure Cfg where
  fz : List Nat
  hd : Nat → List Nat
  lp : Nat → Option Lp
  jn : Nat → Option Nat
  ct : Nat → Option Lp
  rt : Option Lr
  gp : Bool := false
  hg : Bool := true
  fb : Nat → List Nat := fun _ => []
def fid : Code → Nat
  | .region id _ _ => id
  | .seq x _ => fid x
  | .cond _ x _ => fid x
  | .block _ c => fid c
  | .loop c => fid c
  | _ => 0
def evC (x : Operand) (fr : Fr) (M : List Blk) (yes no : Fr → List Blk → Prop) : Prop :=
  match x with
  | .tmp t => match fr.get t with
    | .tt => yes fr M
    | .ff => no fr M
    | .val (.bool c) => (c = true → yes (fr.put t .tt) M) ∧ (c = false → no (fr.put t .ff) M)
    | _ => False
  | .const (.bool b) => match b with
    | true => yes fr M
    | false => no fr M
  | _ => False
/-- the stretches of a drawn region: as many as there are, where none are told -/
def autoHd (l : List Nat) (ops : List Oper) : List Nat :=
  match l with
  | [] => (List.range' 1 ops.length).filter fun b => partB (ops.take b) b (ops.drop b)
  | l => l
def evReg (E : Env) (n : Nat) (cfg : Cfg) (id : Nat) (ops : List Oper) (draw : Bool) (fr : Fr) (M : List Blk) (J : Fr → List Blk → Prop) : Prop :=
  match draw, cfg.gp with
  | false, false => evOps E n cfg.fz ops ops fr M J
  | false, true => evOps2 E n cfg.hg ops false cfg.fz (ops.length + 1) 0 ops fr M J
  | true, _ => evDraw E n cfg.fz (autoHd (cfg.hd id) ops) ops fr M J
/-- a condition's answer, by whichever way it is found -/
def evJoin (t : Nat) (ops : List Oper) (fr : Fr) (M : List Blk) (run : (Fr → List Blk → Prop) → Prop) (J : Fr → List Blk → Prop) : Prop :=
  ∃ c : Bool, run (fun fr' M' => Same M' M ∧ isB (fr'.get t) c) ∧ J ((maskF ops fr).put t (.val (.bool c))) M
def evCode (E : Env) (n k : Nat) (cfg : Cfg) : Code → Fr → List Blk → (Exit → Fr → List Blk → Prop) → Prop
  | .skip, fr, M, Q => Q .normal fr M
  | .region id ops draw, fr, M, Q => frzAll (cfg.fb id) fr M fun fr M => match cfg.jn id with
    | none => evReg E n cfg id ops.toList draw fr M (Q .normal)
    | some t => evJoin t ops.toList fr M (evReg E n cfg id ops.toList draw fr M) (Q .normal)
  | .seq x y, fr, M, Q => match cfg.ct (fid y) with
    | none => evCode E n k cfg x fr M fun e fr' M' => match e with
      | .normal => evCode E n k cfg y fr' M' Q
      | e => Q e fr' M'
    | some L => (evCode E n k cfg x fr M fun e fr' M' => match e with
      | .normal => ∃ s, L.inv s ∧ enters k (L.fr s) (L.M s) fr' M' True
      | e => Q e fr' M') ∧ ∀ s, L.inv s → evCode E n k cfg y (L.fr s) (L.M s) Q
  | .cond c x y, fr, M, Q => evC c fr M (fun fr M => evCode E n k cfg x fr M Q) (fun fr M => evCode E n k cfg y fr M Q)
  | .block id c, fr, M, Q => evCode E n k cfg c fr M fun e fr' M' => match e with
    | .exit id' => match Nat.beq id' id with
      | true => Q .normal fr' M'
      | false => Q (.exit id') fr' M'
    | e => Q e fr' M'
  | .loop c, fr, M, Q => match cfg.lp (fid c) with
    | some L => ∃ x0, L.rel x0 x0 ∧ enters k (L.fr x0) (L.M x0) fr M (∀ x, L.rel x0 x → evCode E n k cfg c (L.fr x) (L.M x) fun e fr' M' => match e with
      | .normal => ∃ x', (L.rel x0 x' ∧ L.mu x' < L.mu x) ∧ enters k (L.fr x') (L.M x') fr' M' True
      | e => Q e fr' M')
    | none => False
  | .exit id, fr, M, Q => Q (.exit id) fr M
  | .ret, fr, M, Q => Q .ret fr M
  | _, _, _, _ => False

def CRun (P : Program) (c : Code) (e : Exit) (K : Act → World → Prop) (a : Act) (w : World) : Prop :=
  ∀ Q : Exit → Act → World → Prop, (∀ a w, K a w → Q e a w) → c.wp P Q a w
theorem Goes.comp {W1 W2 W : (Act → World → Prop) → Act → World → Prop} {fr fr1 fr2 : Fr} {M M1 M2 : List Blk} (h1 : Goes P n k W1 fr M fr1 M1) (h2 : Goes P n k W2 fr1 M1 fr2 M2)
    (hW : ∀ K a w, W1 (W2 K) a w → W K a w) : Goes P n k W fr M fr2 M2 := by
  intro w0 F Hp hs w a K hst hk
  refine hW K a w (h1 w0 F Hp hs w a _ hst fun Hp' hs' w' a' hle hpin hst' => ?_)
  exact h2 w0 F Hp' hs' w' a' K hst' fun Hp'' hs'' w'' a'' hle' hpin' hst'' => hk Hp'' hs'' w'' a'' (hle.trans hle') (fun i hi => (hpin' i hi).trans (hpin i hi)) hst''
theorem Goes.map {W1 W : (Act → World → Prop) → Act → World → Prop} {fr fr1 : Fr} {M M1 : List Blk} (h1 : Goes P n k W1 fr M fr1 M1) (hW : ∀ K a w, W1 K a w → W K a w) : Goes P n k W fr M fr1 M1 :=
  fun w0 F Hp hs w a K hst hk => hW K a w (h1 w0 F Hp hs w a K hst hk)
/-- a state is led to another one, and nothing runs -/
theorem Goes.pre {W : (Act → World → Prop) → Act → World → Prop} {fr fr0 fr1 : Fr} {M M0 M1 : List Blk} (h : Goes P n k W fr M fr1 M1)
    (h0 : ∀ (w0 : Base P) F Hp hs w a, StI n k w0 F Hp hs fr0 M0 w a → ∃ hs', (∀ i : Nat, i < k → hs'[i]? = hs[i]?) ∧ StI n k w0 F Hp hs' fr M w a) : Goes P n k W fr0 M0 fr1 M1 := by
  intro w0 F Hp hs w a K hst hk
  obtain ⟨hs', hpin, hst'⟩ := h0 w0 F Hp hs w a hst
  exact h w0 F Hp hs' w a K hst' fun Hp'' hs'' w'' a'' hle' hpin' hst'' => hk Hp'' hs'' w'' a'' hle' (fun i hi => (hpin' i hi).trans (hpin i hi)) hst''

/-- what is owned is frozen, and nothing runs -/
theorem Goes.preF {W : (Act → World → Prop) → Act → World → Prop} {fr fr0 fr1 : Fr} {M M0 M1 : List Blk} (h : Goes P n k W fr M fr1 M1)
    (h0 : ∀ (w0 : Base P) F Hp hs w a, StI n k w0 F Hp hs fr0 M0 w a → ∃ Hp', Hp.le Hp' ∧ StI n k w0 F Hp' hs fr M w a) : Goes P n k W fr0 M0 fr1 M1 := by
  intro w0 F Hp hs w a K hst hk
  obtain ⟨Hp', hle, hst'⟩ := h0 w0 F Hp hs w a hst
  exact h w0 F Hp' hs w a K hst' fun Hp'' hs'' w'' a'' hle' hpin hst'' => hk Hp'' hs'' w'' a'' (hle.trans hle') hpin hst''
/-- rounds of a loop -/
def LWp (P : Program) (c : Code) (Q : Exit → Act → World → Prop) (a : Act) (w : World) : Prop :=
  ∀ (b : Frame) (k : List Item) (cs : List Frame), ∃ e a' w', Q e a' w' ∧ Arrives P (lone (b.at a (.code c :: .inLoop c :: k)) cs w) b k cs e a' w'
theorem LWp.loop {c : Code} {Q : Exit → Act → World → Prop} {a : Act} {w : World} (h : LWp P c Q a w) : (Code.loop c).wp P Q a w := by
  intro b k cs
  obtain ⟨e, a', w', hq, harr⟩ := h b k cs
  exact ⟨e, a', w', hq, .of_steps (.one step_loop) harr⟩
theorem LWp.round {c : Code} {Q : Exit → Act → World → Prop} {a : Act} {w : World} (h : c.wp P (Exit.then (LWp P c Q) Q) a w) : LWp P c Q a w := by
  intro b k cs
  obtain ⟨e, a₁, w₁, hq, harr⟩ := h b (.inLoop c :: k) cs
  cases e with
  | normal =>
    obtain ⟨e₂, a₂, w₂, hq₂, harr₂⟩ := hq b k cs
    exact ⟨e₂, a₂, w₂, hq₂, .of_steps (Steps.trans harr (.one step_inLoop)) harr₂⟩
  | exit id => exact ⟨_, a₁, w₁, hq, .pass (x := .inLoop c) rfl (fun _ _ => .inl (by simp)) harr⟩
  | goto l => exact ⟨_, a₁, w₁, hq, .pass (x := .inLoop c) rfl (fun _ _ => .inl (by simp)) harr⟩
  | ret => exact ⟨_, a₁, w₁, hq, .pass (x := .inLoop c) rfl (fun _ _ => .inl (by simp)) harr⟩
  | panic ch => exact ⟨_, a₁, w₁, hq, .pass (x := .inLoop c) rfl (fun _ _ => .inl (by simp)) harr⟩
  | outgrown => exact ⟨_, a₁, w₁, hq, .pass (x := .inLoop c) rfl (fun _ _ => .inl (by simp)) harr⟩
def LRun (P : Program) (c : Code) (e : Exit) (K : Act → World → Prop) (a : Act) (w : World) : Prop :=
  ∀ Q : Exit → Act → World → Prop, (∀ a w, K a w → Q e a w) → LWp P c Q a w

theorem evC_ok {x : Operand} {fr : Fr} {M : List Blk} {yes no : Fr → List Blk → Prop} (h : evC x fr M yes no) :
    ∃ (c : Bool) (fr' : Fr), (if c = true then yes fr' M else no fr' M) ∧ ∀ (w0 : Base P) F Hp hs w a, StI n k w0 F Hp hs fr M w a → StI n k w0 F Hp hs fr' M w a ∧ a.eval x = .bool c := by
  unfold evC at h
  split at h
  · rename_i t
    split at h
    · rename_i e
      exact ⟨true, fr, by simpa using h, fun w0 F Hp hs w a hst => ⟨hst, by have := hst.tm t; rw [e] at this; exact this.inv_tt⟩⟩
    · rename_i e
      exact ⟨false, fr, by simpa using h, fun w0 F Hp hs w a hst => ⟨hst, by have := hst.tm t; rw [e] at this; exact this.inv_ff⟩⟩
    · rename_i c e
      have hval : ∀ (w0 : Base P) F Hp hs w a, StI n k w0 F Hp hs fr M w a → a.tmps.getD t undef = .bool c := fun w0 F Hp hs w a hst => by
        have := hst.tm t; rw [e] at this; exact this.inv_val
      cases c with
      | true => exact ⟨true, _, by simpa using h.1 rfl, fun w0 F Hp hs w a hst => ⟨hst.know (by rw [hval w0 F Hp hs w a hst]; exact .tt), hval w0 F Hp hs w a hst⟩⟩
      | false => exact ⟨false, _, by simpa using h.2 rfl, fun w0 F Hp hs w a hst => ⟨hst.know (by rw [hval w0 F Hp hs w a hst]; exact .ff), hval w0 F Hp hs w a hst⟩⟩
    · exact h.elim
  · rename_i b
    cases b with
    | true => exact ⟨true, fr, by simpa using h, fun w0 F Hp hs w a hst => ⟨hst, rfl⟩⟩
    | false => exact ⟨false, fr, by simpa using h, fun w0 F Hp hs w a hst => ⟨hst, rfl⟩⟩
  · exact h.elim

theorem evCode_ok (hE : EnvOk P E) (hm : P.follows .mixedOrders = true) {cfg : Cfg} : ∀ (c : Code) {fr : Fr} {M : List Blk} {Q : Exit → Fr → List Blk → Prop}, evCode E n k cfg c fr M Q →
    ∃ e fr' M', Q e fr' M' ∧ Goes P n k (CRun P c e) fr M fr' M'
  | .skip, fr, M, Q, h => ⟨.normal, fr, M, h, fun w0 F Hp hs w a K hst hk Q hq => wp_skip (hq _ _ (hk Hp hs w a (PH.le.refl _) (fun _ _ => rfl) hst))⟩
  | .region id ops draw, fr, M, Q, h => by
    simp only [evCode] at h
    obtain ⟨fr0, M0, h, hfz⟩ := frzAll_ok (P := P) (n := n) (k := k) _ h
    have hreg : ∀ {J : Fr → List Blk → Prop}, evReg E n cfg id ops.toList draw fr0 M0 J → ∃ fr' M', J fr' M' ∧ GoesO P n k (dstsN ops.toList) (CRun P (.region id ops draw) .normal) fr0 M0 fr' M' := by
      intro J h
      unfold evReg at h
      split at h
      · obtain ⟨fr', M', hK, hgo⟩ := evReg_ok (k := k) hE h
        exact ⟨fr', M', hK, fun w0 F Hp hs w a K hst hk Q hq => wp_region (hgo w0 F Hp hs w a K hst hk Q hq)⟩
      · obtain ⟨fr', M', hK, hgo⟩ := evReg2_ok (k := k) hE h
        exact ⟨fr', M', hK, fun w0 F Hp hs w a K hst hk Q hq => wp_region (hgo w0 F Hp hs w a K hst hk Q hq)⟩
      · obtain ⟨fr', M', hK, hgo⟩ := evDraw_ok (k := k) hE h
        refine ⟨fr', M', hK, fun w0 F Hp hs w a K hst hk Q hq => wp_region_any hm ?_⟩
        exact hgo w0 F Hp hs w.drew a K ⟨hst.inv.drew, hst.dfr, hst.sz, hst.tm, hst.kl⟩ hk Q hq
    split at h
    · obtain ⟨fr', M', hK, hgo⟩ := hreg h
      exact ⟨.normal, fr', M', hK, hgo.goes.preF hfz⟩
    · rename_i t ht
      obtain ⟨c, hrun, hJ⟩ := h
      obtain ⟨fr', M', ⟨hsame0, hb⟩, hgo⟩ := hreg hrun
      have hsame0 : M' = _ := hsame0
      subst hsame0
      refine ⟨.normal, _, _, hJ, Goes.preF (fun w0 F Hp hs w a K hst hk => ?_) hfz⟩
      refine hgo w0 F Hp hs w a K hst fun Hp' hs' w' a' hle hl hst' hsame => hk Hp' hs' w' a' hle (pin_of_HL hst.kl hl) ?_
      refine ⟨hst'.inv, hst'.dfr, hst'.sz, fun s => ?_, hst'.kl⟩
      rw [Fr.get_put]
      split
      · rename_i e
        subst e
        have := hst'.tm t
        have hv : a'.tmps.getD t undef = .bool c := by
          unfold isB at hb
          split at hb
          · rename_i e; rw [e] at this; rw [this.inv_tt, ← hb]
          · rename_i e; rw [e] at this; rw [this.inv_ff, ← hb]
          · rename_i e; rw [e] at this; rw [this.inv_val, ← hb]
          · exact hb.elim
        rw [hv]; exact .val _
      · exact mask_holds (tm := fun q => a'.tmps.getD q undef) ops.toList fr0 (fun q hq => by show Rep F Hp' hs' (fr0.get q) (a'.tmps.getD q undef); rw [hsame q hq]; exact Rep.mono (PH.le.refl _) hle hl (hst.tm q)) s
  | .seq x y, fr, M, Q, h => by
    simp only [evCode] at h
    split at h
    · obtain ⟨e1, fr1, M1, h1, hgo1⟩ := evCode_ok hE hm x h
      split at h1
      · obtain ⟨e2, fr2, M2, h2, hgo2⟩ := evCode_ok hE hm y h1
        refine ⟨e2, fr2, M2, h2, hgo1.comp hgo2 fun K a w hr Q hq => wp_seq ?_⟩
        exact hr _ fun a w h => h Q hq
      · rename_i hne
        refine ⟨e1, fr1, M1, h1, hgo1.map fun K a w hr Q hq => wp_seq (hr _ fun a w h => ?_)⟩
        cases e1 <;> first | exact absurd rfl hne | exact hq a w h
    · rename_i L hL
      obtain ⟨e1, fr1, M1, h1, hgo1⟩ := evCode_ok hE hm x h.1
      split at h1
      · obtain ⟨s, hs, hent⟩ := h1
        obtain ⟨_, hst1⟩ := enters_ok (P := P) (n := n) hent
        obtain ⟨e2, fr2, M2, h2, hgo2⟩ := evCode_ok hE hm y (h.2 s hs)
        refine ⟨e2, fr2, M2, h2, hgo1.comp (hgo2.pre hst1) fun K a w hr Q hq => wp_seq ?_⟩
        exact hr _ fun a w h => h Q hq
      · rename_i hne
        refine ⟨e1, fr1, M1, h1, hgo1.map fun K a w hr Q hq => wp_seq (hr _ fun a w h => ?_)⟩
        cases e1 <;> first | exact absurd rfl hne | exact hq a w h
  | .cond c x y, fr, M, Q, h => by
    simp only [evCode] at h
    obtain ⟨b, fr1, h1, hst1⟩ := evC_ok (n := n) (k := k) h
    cases b with
    | true =>
      obtain ⟨e, fr', M', hQ, hgo⟩ := evCode_ok hE hm x (by simpa using h1)
      refine ⟨e, fr', M', hQ, fun w0 F Hp hs w a K hst hk Q hq => ?_⟩
      obtain ⟨q1, q2⟩ := hst1 w0 F Hp hs w a hst
      exact wp_cond_true q2 (hgo w0 F Hp hs w a K q1 hk Q hq)
    | false =>
      obtain ⟨e, fr', M', hQ, hgo⟩ := evCode_ok hE hm y (by simpa using h1)
      refine ⟨e, fr', M', hQ, fun w0 F Hp hs w a K hst hk Q hq => ?_⟩
      obtain ⟨q1, q2⟩ := hst1 w0 F Hp hs w a hst
      exact wp_cond_false q2 (hgo w0 F Hp hs w a K q1 hk Q hq)
  | .block id c, fr, M, Q, h => by
    simp only [evCode] at h
    obtain ⟨e, fr', M', h1, hgo⟩ := evCode_ok hE hm c h
    split at h1
    · rename_i id'
      split at h1
      · rename_i hid
        have hid := beq_nat hid
        subst hid
        exact ⟨.normal, fr', M', h1, hgo.map fun K a w hr Q hq => wp_block (hr _ fun a w h => by simp only [Exit.inBlock, if_true]; exact hq a w h)⟩
      · rename_i hid
        have hne : id' ≠ id := fun e => by subst e; simp at hid
        exact ⟨.exit id', fr', M', h1, hgo.map fun K a w hr Q hq => wp_block (hr _ fun a w h => by simp only [Exit.inBlock, hne, if_false]; exact hq a w h)⟩
    · rename_i hne
      refine ⟨e, fr', M', h1, hgo.map fun K a w hr Q hq => wp_block (hr _ fun a w h => ?_)⟩
      cases e <;> first | exact hq a w h | exact absurd rfl (hne _)
  | .loop c, fr, M, Q, h => by
    simp only [evCode] at h
    split at h
    · rename_i L hL
      obtain ⟨x0, hx0, hent⟩ := h
      obtain ⟨hbody, hent'⟩ := enters_ok (n := n) hent
      have key : ∀ (m : Nat) x, L.mu x = m → L.rel x0 x → ∃ e fr' M', Q e fr' M' ∧ Goes P n k (LRun P c e) (L.fr x) (L.M x) fr' M' := by
        intro m
        induction m using Nat.strongRecOn with
        | _ m ih =>
          intro x hx hinv
          obtain ⟨e1, fr1, M1, h1, hgo1⟩ := evCode_ok hE hm c (hbody x hinv)
          split at h1
          · obtain ⟨x', ⟨hinv', hmu⟩, hent1⟩ := h1
            obtain ⟨_, hst1⟩ := enters_ok (n := n) hent1
            obtain ⟨e, fr', M', hQ, hgo⟩ := ih (L.mu x') (by omega) x' rfl hinv'
            refine ⟨e, fr', M', hQ, hgo1.comp (hgo.pre hst1) fun K a w hr Q hq => LWp.round (hr _ fun a w h => ?_)⟩
            exact h Q hq
          · rename_i hne
            refine ⟨e1, fr1, M1, h1, hgo1.map fun K a w hr Q hq => LWp.round (hr _ fun a w h => ?_)⟩
            cases e1 <;> first | exact absurd rfl hne | exact hq a w h
      obtain ⟨e, fr', M', hQ, hgo⟩ := key _ x0 rfl hx0
      exact ⟨e, fr', M', hQ, (hgo.pre hent').map fun K a w hr Q hq => (hr Q hq).loop⟩
    · exact h.elim
  | .exit id, fr, M, Q, h => ⟨.exit id, fr, M, h, fun w0 F Hp hs w a K hst hk Q hq => wp_exit (hq _ _ (hk Hp hs w a (PH.le.refl _) (fun _ _ => rfl) hst))⟩
  | .ret, fr, M, Q, h => ⟨.ret, fr, M, h, fun w0 F Hp hs w a K hst hk Q hq => wp_ret (hq _ _ (hk Hp hs w a (PH.le.refl _) (fun _ _ => rfl) hst))⟩
  | .rangeFunc .., fr, M, Q, h => by simp [evCode] at h
  | .scope .., fr, M, Q, h => by simp [evCode] at h
  | .label .., fr, M, Q, h => by simp [evCode] at h
  | .goto .., fr, M, Q, h => by simp [evCode] at h
  | .refuse .., fr, M, Q, h => by simp [evCode] at h
end Go.Sx
end
section
namespace Go.Sx
open Go
variable {P : Program} {E : Env} {n k : Nat}

/-! functions -/
def evRes (E : Env) : List ResultVar → Fr → List Blk → (List AV → Prop) → Prop
  | [], _, _, J => J []
  | .tmp t :: r, fr, M, J => evRes E r fr M fun l => J (fr.get t :: l)
  | .cell a t :: r, fr, M, J => evLoad E.ty M t (fr.get a) fun av => evRes E r fr M fun l => J (av :: l)
def argsF : Nat → List AV → Fr
  | _, [] => []
  | i, x :: r => (i, x) :: argsF (i + 1) r
def one (l : List AV) : AV :=
  match l with
  | [x] => x
  | l => .tup l
/-- what is told, in its form -/
def Leaf (R : Lr) (K : AV → List Blk → Prop) (x : R.X) : Prop := K (one (R.l x)) (R.M x)
def evRet (k : Nat) (rt : Option Lr) (l : List AV) (M : List Blk) (K : AV → List Blk → Prop) : Prop :=
  match rt with
  | none => K (one (l.map nrm)) M
  | some R => ∃ x, enters k (argsF 0 (R.l x)) (R.M x) (argsF 0 l) M (match Nat.beq (R.l x).length l.length with
    | true => Leaf R K x
    | false => False)
def evFn (E : Env) (fn : Func) (cfg : Cfg) (ags : List AV) (M : List Blk) (K : AV → List Blk → Prop) : Prop :=
  match fn.body, Nat.ble ags.length fn.ntmps, Nat.ble fn.results.size 3 with
  | some c, true, true => evCode E fn.ntmps M.length cfg c (argsF 0 ags) M fun e fr M' => match e with
    | .normal => evRes E fn.results.toList fr M' fun l => evRet M.length cfg.rt l M' K
    | .ret => evRes E fn.results.toList fr M' fun l => evRet M.length cfg.rt l M' K
    | _ => False
  | _, _, _ => False
def readRes (tmps : Array Value) : ResultVar → Sem Value
  | .tmp t => pure (tmps.getD t undef)
  | .cell a t => do loadVar t (← asAddr (tmps.getD a undef))
def oneV (l : List Value) : Value :=
  match l with
  | [x] => x
  | l => .tuple l.toArray
theorem run_results {fn : Func} (hs : fn.results.size ≤ 3) {tmps : Array Value} {w : World} {vs : List Value} (hl : vs.length = fn.results.toList.length)
    (h : ∀ (i : Nat) r v, fn.results.toList[i]? = some r → vs[i]? = some v → (readRes tmps r).run P w = .ok v w) : (results fn tmps).run P w = .ok (oneV vs) w := by
  have hr : fn.results = fn.results.toList.toArray := by simp
  have e : results fn tmps = (do
      let vs ← fn.results.mapM (readRes tmps)
      pure (if h : vs.size = 1 then vs[0] else .tuple vs)) := by
    unfold results
    congr 1
  rw [e]
  rw [hr]
  have hs' : fn.results.toList.length ≤ 3 := by simpa using hs
  revert h hl hs'
  generalize fn.results.toList = l
  intro hl h hs
  match l, vs, hl, h, hs with
  | [], [], _, _, _ => simp [oneV]
  | [a], [x], _, h, _ => 
    have h0 := h 0 a x rfl rfl
    simp [oneV, h0]
  | [a, b], [x, y], _, h, _ =>
    have h0 := h 0 a x rfl rfl
    have h1 := h 1 b y rfl rfl
    simp [oneV, h0, h1]
  | [a, b, c], [x, y, z], _, h, _ =>
    have h0 := h 0 a x rfl rfl
    have h1 := h 1 b y rfl rfl
    have h2 := h 2 c z rfl rfl
    simp [oneV, h0, h1, h2]
  | _ :: _ :: _ :: _ :: _, _, _, _, hs => simp at hs
theorem evRes_ok (hE : EnvOk P E) : ∀ (rs : List ResultVar) {fr : Fr} {M : List Blk} {J : List AV → Prop}, evRes E rs fr M J → ∃ l, J l ∧ ∀ (w0 : Base P) F Hp hs w a, StI n k w0 F Hp hs fr M w a →
    ∃ vs, vs.length = rs.length ∧ Reps F Hp hs l vs ∧ ∀ (i : Nat) r v, rs[i]? = some r → vs[i]? = some v → (readRes a.tmps r).run P w = .ok v w
  | [], fr, M, J, h => ⟨[], h, fun w0 F Hp hs w a hst => ⟨[], rfl, .nil, fun i r v h => by simp at h⟩⟩
  | .tmp t :: r, fr, M, J, h => by
    simp only [evRes] at h
    obtain ⟨l, hJ, hl⟩ := evRes_ok hE r h
    refine ⟨_, hJ, fun w0 F Hp hs w a hst => ?_⟩
    obtain ⟨vs, h1, h2, h3⟩ := hl w0 F Hp hs w a hst
    refine ⟨_ :: vs, by simp [h1], .cons (hst.tm t) h2, fun i q v q1 q2 => ?_⟩
    cases i with
    | zero => simp at q1 q2; subst q1; subst q2; simp [readRes]
    | succ i => exact h3 i q v (by simpa using q1) (by simpa using q2)
  | .cell p t :: r, fr, M, J, h => by
    simp only [evRes] at h
    obtain ⟨av, hK, hav⟩ := evLoad_ok (P := P) hE.ty h
    obtain ⟨l, hJ, hl⟩ := evRes_ok hE r hK
    refine ⟨_, hJ, fun w0 F Hp hs w a hst => ?_⟩
    obtain ⟨vs, h1, h2, h3⟩ := hl w0 F Hp hs w a hst
    obtain ⟨v, g1, g2⟩ := hav w0 F Hp hs w _ hst.inv (hst.tm p)
    refine ⟨v :: vs, by simp [h1], .cons g2 h2, fun i q u q1 q2 => ?_⟩
    cases i with
    | zero =>
      simp at q1 q2; subst q1; subst q2
      have hx := g1
      simp only [readRes, Instr.loadAt] at hx ⊢
      revert hx
      generalize a.tmps.getD p undef = u
      intro hx
      cases u with
      | pointer q => cases q with
        | none => simp [Instr.sureAddr, stuck] at hx
        | some ad => simpa [Instr.sureAddr, asAddr] using hx
      | _ => simp [Instr.sureAddr, stuck] at hx
    | succ i => exact h3 i q u (by simpa using q1) (by simpa using q2)
theorem argsF_get : ∀ (ags : List AV) (i t : Nat), (argsF i ags).get t = if i ≤ t then (ags[t - i]?).getD .top else .top
  | [], i, t => by simp [argsF, Fr.get]
  | x :: r, i, t => by
    simp only [argsF, Fr.get]
    split
    · rename_i e
      have e := beq_nat e
      subst e
      simp
    · rename_i e
      have e : i ≠ t := fun x => by subst x; simp at e
      rw [argsF_get r (i + 1) t]
      by_cases h : i ≤ t
      · rw [if_pos h, if_pos (by omega), show t - i = (t - (i + 1)) + 1 by omega, List.getElem?_cons_succ]
      · rw [if_neg h, if_neg (by omega)]
theorem reps_of_args {F Hp : PH} {hs : List Value} : ∀ {l : List AV} {vs : List Value} {i : Nat}, l.length = vs.length → (∀ t, t < vs.length → Rep F Hp hs ((argsF i l).get (i + t)) (vs.getD t undef)) → Reps F Hp hs l vs
  | [], [], i, _, _ => .nil
  | [], _ :: _, i, h, _ => by simp at h
  | _ :: _, [], i, h, _ => by simp at h
  | x :: l, v :: vs, i, h, g => by
    refine .cons ?_ (reps_of_args (i := i + 1) (by simpa using h) fun t ht => ?_)
    · have := g 0 (by simp)
      simpa [argsF, Fr.get] using this
    · have := g (t + 1) (by simpa using ht)
      rw [argsF_get, if_pos (by omega)] at this ⊢
      rw [show i + (t + 1) - i = t + 1 by omega] at this
      rw [show i + 1 + t - (i + 1) = t by omega]
      simpa using this
theorem evRet_ok {k0 : Nat} {rt : Option Lr} {l : List AV} {M : List Blk} {K : AV → List Blk → Prop} (h : evRet k0 rt l M K) : ∃ l' M', K (one l') M' ∧ ∀ (w0 : Base P) F Hp hs w vs, InvS w0 F Hp hs M w → k0 ≤ hs.length → Reps F Hp hs l vs →
    ∃ hs', (∀ i : Nat, i < k0 → hs'[i]? = hs[i]?) ∧ InvS w0 F Hp hs' M' w ∧ Reps F Hp hs' l' vs := by
  unfold evRet at h
  split at h
  · exact ⟨l.map nrm, M, h, fun w0 F Hp hs w vs hi _ hr => ⟨hs, fun _ _ => rfl, hi, reps_map nrm_ok hr⟩⟩
  · rename_i R
    obtain ⟨x, hx⟩ := h
    obtain ⟨hK, hst⟩ := enters_ok (P := P) (n := l.length) hx
    have hlen : (R.l x).length = l.length ∧ K (one (R.l x)) (R.M x) := by
      split at hK
      · rename_i e; exact ⟨beq_nat e, hK⟩
      · exact hK.elim
    obtain ⟨hlen, hK⟩ := hlen
    refine ⟨_, _, hK, fun w0 F Hp hs w vs hi hk hr => ?_⟩
    have hvl := hr.length
    obtain ⟨hs', hpin, hst'⟩ := hst w0 F Hp hs w ⟨vs.toArray, []⟩ ⟨hi, rfl, by simp [hvl], fun t => by
      rw [argsF_get, if_pos (Nat.zero_le _), Nat.sub_zero]
      cases ha : l[t]? with
      | none => exact .top _
      | some y =>
        obtain ⟨u, h1, h2⟩ := hr.get t y ha
        rw [Array.getD_eq_getD_getElem?]
        simp only [List.getElem?_toArray, h1]
        exact h2, hk⟩
    refine ⟨hs', hpin, hst'.inv, reps_of_args (i := 0) (by omega) fun t ht => ?_⟩
    have := hst'.tm t
    rw [Array.getD_eq_getD_getElem?] at this
    simpa [List.getD, List.getElem?_toArray] using this
theorem fn_ok2 (hE : EnvOk P E) (hm : P.follows .mixedOrders = true) {f : FuncId} {fn : Func} (hf : P.funcs[f]? = some fn) (hname : (fn.name == "runtime.NumGoroutine") = false) (c : Con)
    (h : ∀ ags M K, c.ev ags M K → ∃ cfg, evFn E fn cfg ags M K) : ConOk P f c := by
  intro ags M K hc
  obtain ⟨cfg, h⟩ := h ags M K hc
  unfold evFn at h
  split at h
  · rename_i code hbody hlen hres
    have hlen := Nat.le_of_ble_eq_true hlen
    have hres := Nat.le_of_ble_eq_true hres
    obtain ⟨e, fr', M', hQ, hgo⟩ := evCode_ok hE hm code h
    have hQ' : (e = .normal ∨ e = .ret) ∧ evRes E fn.results.toList fr' M' fun l => evRet M.length cfg.rt l M' K := by
      split at hQ
      · exact ⟨.inl rfl, hQ⟩
      · exact ⟨.inr rfl, hQ⟩
      · exact hQ.elim
    obtain ⟨he, hQ'⟩ := hQ'
    obtain ⟨l, hK, hl⟩ := evRes_ok (n := fn.ntmps) (k := M.length) hE _ hQ'
    obtain ⟨l', M2, hK, hret⟩ := evRet_ok (P := P) hK
    refine ⟨_, _, hK, fun w0 F Hp hs w vs hi hr => ⟨⟨fn, code, hf, hname, hbody⟩, ?_⟩⟩
    have hvl := hr.length
    have hst : StI fn.ntmps M.length w0 F Hp hs (argsF 0 ags) M w { tmps := vs.toArray ++ Array.replicate (fn.ntmps - vs.toArray.size) undef, defers := [] } := by
      refine ⟨hi, rfl, by simp; omega, fun t => ?_, by rw [hi.len]; exact Nat.le_refl _⟩
      rw [argsF_get, if_pos (Nat.zero_le _), Nat.sub_zero]
      cases ha : ags[t]? with
      | none => exact .top _
      | some x =>
        obtain ⟨u, h1, h2⟩ := hr.get t x ha
        have hlt := (List.getElem?_eq_some_iff.1 h1).1
        rw [Array.getD_eq_getD_getElem?, Array.getElem?_append_left (by simpa using hlt)]
        simp only [List.getElem?_toArray, h1]
        exact h2
    refine calls_of_wp hf hbody (hgo w0 F Hp hs w _ (fun a' w' => a'.defers = [] ∧ ∃ v, (results fn a'.tmps).run P w' = .ok v w' ∧ ∃ Hp' hs', Hp.le Hp' ∧ (∀ i : Nat, i < M.length → hs'[i]? = hs[i]?) ∧ InvS w0 F Hp' hs' M2 w' ∧ Rep F Hp' hs' (one l') v) hst (fun Hp' hs' w' a' hle hpin hst' => ?_) _ ?_)
    · obtain ⟨us, q1, q2, q3⟩ := hl w0 F Hp' hs' w' a' hst'
      obtain ⟨hs2, hpin2, hi2, q2'⟩ := hret w0 F Hp' hs' w' us hst'.inv hst'.kl q2
      refine ⟨hst'.dfr, oneV us, run_results hres q1 q3, Hp', hs2, hle, fun i hi => (hpin2 i hi).trans (hpin i hi), hi2, ?_⟩
      unfold one oneV
      cases q2' with
      | nil => exact .tup _ _ .nil
      | cons h t => cases t with
        | nil => exact h
        | cons h' t => exact .tup _ _ (.cons h (.cons h' t))
    · intro a' w' hk
      rcases he with rfl | rfl <;> exact hk
  · exact h.elim
theorem fn_ok (hE : EnvOk P E) (hm : P.follows .mixedOrders = true) {f : FuncId} {fn : Func} (hf : P.funcs[f]? = some fn) (hname : (fn.name == "runtime.NumGoroutine") = false) (c : Con) (cfg : Cfg)
    (h : ∀ ags M K, c.ev ags M K → evFn E fn cfg ags M K) : ConOk P f c := fn_ok2 hE hm hf hname c fun ags M K hc => ⟨cfg, h ags M K hc⟩
end Go.Sx
end
section
namespace Go.Sx
open Go Go.RowKit
variable {P : Program}

/-! the table of a program's types -/
def tkOf : TypeDesc → TK
  | .int k => .int k
  | .bool => .bool
  | .string => .str
  | .slice e => .slice e
  | .pointer e => .ptr e
  | .struct fs => .strct (fs.toList.map fun f => (f.offset, f.type))
  | .interface _ => .iface
  | _ => .other
def isArr : TypeDesc → Bool
  | .array _ _ => true
  | _ => false
/-- may two of it be held beside each other, and nothing be asked? -/
def cmpOf (P : Program) (t : TypeId) (u : TypeDesc) : Bool :=
  match P.eqGuardType P.depth t, P.stoodInHeld t, u with
  | false, false, .struct fs => fs.toList.all fun f => !(f.name == "_")
  | _, _, _ => false
def isAggV : Value → Bool
  | .agg _ => true
  | _ => false
def tyOf (P : Program) (kd : TypeId → Option Kd) : Ty := fun t =>
  match P.info? t, P.underlying t with
  | some i, some u => match i.zero with
    | some z => match isArr u, Nat.beq z.cells.size i.size with
      | false, true => some ⟨tkOf u, i.size, i.bytes, z.cells.toList, kd t, cmpOf P t u, isAggV z⟩
      | _, _ => none
    | none => none
  | _, _ => none
theorem tyOf_ok (kd : TypeId → Option Kd) : TyOk P (tyOf P kd) := by
  intro t d h
  unfold tyOf at h
  split at h
  · rename_i i u hi hu
    split at h
    · rename_i z hz
      split at h
      · rename_i ha hs
        have hs := beq_nat hs
        cases h
        refine ⟨u, i, hi, hu, ?_, ?_, ?_, rfl, rfl, ⟨z, hz, rfl⟩, by simpa using hs, ?_, ?_⟩
        · cases u <;> simp [tkOf, TK.fits]
        · cases u <;> simp [tkOf, TK.agg, isArr] at ha ⊢
        · intro hne ms e
          subst e
          exact hne rfl
        · intro hz'
          show i.zero = some (.agg z.cells.toList.toArray)
          cases z <;> first | (cases hz'; done) | skip
          simpa [Value.cells] using hz
        · intro hc
          simp only [cmpOf] at hc
          split at hc
          · rename_i e1 e2
            refine ⟨e1, e2, fun fs' e f hf => ?_⟩
            cases e
            have := List.all_eq_true.1 hc f hf
            simpa using this
          · cases hc
      · cases h
    · cases h
  · cases h
/-- more memory, and nothing of it is named -/
theorem InvS.grow {w0 : Base P} {F Hp : PH} {hs : List Value} {M : List Blk} {w w' : World} (hi : InvS w0 F Hp hs M w) (h : Below w.heap.size w w') : InvS w0 F Hp hs M w' := by
  refine ⟨fun b o hb => ?_, fun b o hb => ?_, hi.pf, hi.len, hi.one, fun n blk v h1 h2 => ?_, hi.own, hi.inj, h.os.trans hi.os, h.tape.trans hi.tape, h.output.trans hi.output, hi.gl⟩
  · rw [h.block b (hi.perm_lt hb)]; exact hi.perm b o hb
  · rw [h.block b (hi.fr_lt hb)]; exact hi.fr b o hb
  · by_cases hl : blk.live = true
    · exact (hi.blk n blk v h1 h2).mono (PH.le.refl _) (PH.le.refl _) (HL.refl _) fun b hb => h.block b (hi.id_lt h1 hl h2 hb)
    · cases blk <;> simp [Blk.live] at hl
      trivial
/-- a contract of the library's, that leaves all as it was -/
theorem con_of_calls {f : FuncId} {fn : Func} {code : Code} (hf : P.funcs[f]? = some fn) (hname : (fn.name == "runtime.NumGoroutine") = false) (hbody : fn.body = some code) (c : Con)
    (h : ∀ ags M K, c.ev ags M K → ∃ av, K av M ∧ ∀ (w0 : Base P) F Hp hs w vs, InvS w0 F Hp hs M w → Reps F Hp hs ags vs →
      Calls P f vs.toArray w fun e w' => ∃ v, e = .returned v ∧ Below w.heap.size w w' ∧ Rep F Hp hs av v) : ConOk P f c := by
  intro ags M K hc
  obtain ⟨av, hK, hrun⟩ := h ags M K hc
  refine ⟨av, M, hK, fun w0 F Hp hs w vs hi hr => ⟨⟨fn, code, hf, hname, hbody⟩, Calls.mono (hrun w0 F Hp hs w vs hi hr) ?_⟩⟩
  rintro e w' ⟨v, rfl, hb, hv⟩
  exact ⟨Hp, hs, PH.le.refl _, fun _ _ => rfl, hi.grow hb, hv⟩
/-- a type's own method, told by value -/
def notPtr : TypeDesc → Bool
  | .pointer _ => false
  | _ => true
def mthRow (P : Program) (T : TypeId) (nm : String) (f : FuncId) : Bool :=
  match P.info? T, P.underlying T with
  | some i, some u => match i.methods.find? (·.name == nm) with
    | some m => match m.path.toList, m.func with
      | [], some (g, false) => match Nat.beq g f, notPtr u with
        | true, true => true
        | _, _ => false
      | _, _ => false
    | none => false
  | _, _ => false
theorem mthRow_ok {T : TypeId} {nm : String} {f : FuncId} (h : mthRow P T nm f = true) : ∀ w v args, (callMethod (.iface T v) nm args).run P w = (callFunc f (#[v] ++ args)).run P w := by
  intro w v args
  unfold mthRow at h
  split at h
  · rename_i i u hi hu
    split at h
    · rename_i m hm
      split at h
      · rename_i g hp hf
        split at h
        · rename_i e1 e2
          have e1 := beq_nat e1
          subst e1
          have hr : ∀ w, (receiverAt T (.val v) false (if m.path.isEmpty = true then some ((nm.splitOn ".").getLastD nm) else none)).run P w = .ok v w := by
            intro w
            unfold receiverAt
            simp only [Sem.run_bind]
            rw [show (underlying T).run P w = .ok u w by simp [underlying, hu]]
            simp only [Result.andThen_ok]
            cases u <;> first | (simp [notPtr] at e2; done) | simp [Place.get]
          have hmeth : ∀ n w, (method (n + 1) T v nm).run P w = .ok (g, v) w := by
            intro n w
            unfold method
            simp only [Sem.run_bind, show (typeInfo T).run P w = .ok i w by simp [typeInfo, hi], Result.andThen_ok, hm, hp, follow, Sem.run_pure, hf, hr]
          unfold callMethod
          simp only [Sem.run_bind, run_program, Result.andThen_ok]
          have h1 : 1 ≤ Made.depth := by decide
          have hd : ∃ n, P.types.size + Made.depth = n + 1 := ⟨P.types.size + (Made.depth - 1), by omega⟩
          obtain ⟨n, hn⟩ := hd
          rw [hn, hmeth]
          rfl
        · cases h
      · cases h
    · cases h
  · cases h
end Go.Sx
end
section
namespace Go.Sx
open Go
/-! bits of integers of 64 bits -/
theorem i64_and_mask (n : Int) (m : Nat) (hm : m ≤ 62) : bits .and .i64 n (2 ^ m - 1) = n % 2 ^ m := by
  have hle : 2 ^ m ≤ 2 ^ 62 := Nat.pow_le_pow_right (by omega) hm
  have hpos : 0 < 2 ^ m := Nat.pow_pos (by omega)
  have hmask : (BitVec.ofInt 64 (2 ^ m - 1)).toNat = 2 ^ m - 1 := by
    have e : ((2 : Int) ^ m - 1) = ((2 ^ m - 1 : Nat) : Int) := by
      rw [Int.natCast_sub (by omega)]; simp
    rw [e, BitVec.ofInt_natCast, BitVec.toNat_ofNat]
    exact Nat.mod_eq_of_lt (by omega)
  have key : (BitVec.ofInt 64 n &&& BitVec.ofInt 64 (2 ^ m - 1)).toNat = (n % ((2 ^ 64 : Nat) : Int)).toNat % 2 ^ m := by
    rw [BitVec.toNat_and, BitVec.toNat_ofInt, hmask, Nat.and_two_pow_sub_one_eq_mod]
  show IntKind.i64.wrap ((BitVec.ofInt 64 n &&& BitVec.ofInt 64 (2 ^ m - 1)).toNat : Nat) = n % 2 ^ m
  rw [key, IntKind.wrap_i64]
  have h1 : (n % ((2 ^ 64 : Nat) : Int)).toNat % 2 ^ m < 2 ^ m := Nat.mod_lt _ hpos
  have h2 : (((n % ((2 ^ 64 : Nat) : Int)).toNat % 2 ^ m : Nat) : Int) = n % 2 ^ m := by
    rw [Int.natCast_emod, Int.toNat_of_nonneg (Int.emod_nonneg _ (by decide))]
    rw [show ((2 ^ m : Nat) : Int) = 2 ^ m by simp]
    apply Int.emod_emod_of_dvd
    have : ((2 ^ 64 : Nat) : Int) = 2 ^ m * 2 ^ (64 - m) := by
      rw [← Int.pow_add, show m + (64 - m) = 64 by omega]; rfl
    rw [this]
    exact Int.dvd_mul_right _ _
  rw [← h2]
  omega
theorem ofInt_i64 (a : Nat) (ha : a < 2 ^ 64) : (BitVec.ofInt 64 (a : Int)).toNat = a := by
  rw [BitVec.ofInt_natCast, BitVec.toNat_ofNat]; exact Nat.mod_eq_of_lt ha
theorem i64_or_nat (a b : Nat) (ha : a < 2 ^ 63) (hb : b < 2 ^ 63) : bits .or .i64 (a : Int) (b : Int) = ((a ||| b : Nat) : Int) := by
  have hx : a ||| b < 2 ^ 63 := Nat.or_lt_two_pow ha hb
  show IntKind.i64.wrap ((BitVec.ofInt 64 (a : Int) ||| BitVec.ofInt 64 (b : Int)).toNat : Int) = _
  rw [BitVec.toNat_or, ofInt_i64 a (by omega), ofInt_i64 b (by omega), IntKind.wrap_i64]
  omega
theorem i64_and_nat (a b : Nat) (ha : a < 2 ^ 63) (hb : b < 2 ^ 63) : bits .and .i64 (a : Int) (b : Int) = ((a &&& b : Nat) : Int) := by
  have hx : a &&& b < 2 ^ 63 := Nat.and_lt_two_pow _ hb
  show IntKind.i64.wrap ((BitVec.ofInt 64 (a : Int) &&& BitVec.ofInt 64 (b : Int)).toNat : Int) = _
  rw [BitVec.toNat_and, ofInt_i64 a (by omega), ofInt_i64 b (by omega), IntKind.wrap_i64]
  omega
/-- high bits and low bits -/
theorem i64_or_add (x y : Int) (m : Nat) (hx : 0 ≤ x) (hy : 0 ≤ y) (hym : y < 2 ^ m) (hm : m ≤ 62) (hb : x * 2 ^ m + y < 2 ^ 62) : bits .or .i64 (x * 2 ^ m) y = x * 2 ^ m + y := by
  obtain ⟨a, rfl⟩ := Int.eq_ofNat_of_zero_le hx
  obtain ⟨b, rfl⟩ := Int.eq_ofNat_of_zero_le hy
  have e1 : ((a : Int) * 2 ^ m) = ((a * 2 ^ m : Nat) : Int) := by simp
  have e2 : b < 2 ^ m := by
    have : ((b : Nat) : Int) < ((2 ^ m : Nat) : Int) := by simpa using hym
    exact Int.ofNat_lt.1 this
  rw [e1] at hb ⊢
  have h62 : ((2 : Int) ^ 62) = ((2 ^ 62 : Nat) : Int) := by simp
  rw [i64_or_nat _ _ (by omega) (by omega)]
  have := Nat.shiftLeft_add_eq_or_of_lt e2 a
  rw [Nat.shiftLeft_eq] at this
  rw [← this]; simp
end Go.Sx
end
section
namespace Go.Sx
open Go Go.RowKit
variable {P : Program}
/-! from a contract to a call at the row's start -/
def heapPH (W : World) : PH := fun b => W.heap[b]?
theorem tabs_keep {g3 g4 : Nat} {W w' : World} (h : Lib.Utf8Tabs g3 g4 W) (hk : ∀ b o, heapPH W b = some o → w'.heap[b]? = some o) : Lib.Utf8Tabs g3 g4 w' := by
  have key : ∀ (a : Addr) v, W.cell? a = some v → w'.cell? a = some v := by
    intro a v hv
    unfold World.cell? at hv ⊢
    cases ho : W.heap[a.block]? with
    | none => rw [ho] at hv; cases hv
    | some o =>
      rw [ho] at hv
      rw [hk a.block o ho]; exact hv
  exact ⟨fun c hc => key _ _ (h.1 c hc), fun i hi => ⟨key _ _ (h.2 i hi).1, key _ _ (h.2 i hi).2⟩⟩
/-- a base, of the row's start -/
def baseOf (W : World) (hT : ∀ g3 g4, P.globalNamed "unicode/utf8.first" = some g3 → P.globalNamed "unicode/utf8.acceptRanges" = some g4 → Lib.Utf8Tabs g3 g4 W) : Base P :=
  ⟨W, heapPH W, fun g3 g4 h1 h2 w' hk => tabs_keep (hT g3 g4 h1 h2) hk⟩
theorem start_inv (W : World) (hT : ∀ g3 g4, P.globalNamed "unicode/utf8.first" = some g3 → P.globalNamed "unicode/utf8.acceptRanges" = some g4 → Lib.Utf8Tabs g3 g4 W) :
    InvS (baseOf W hT) (fun _ => none) (heapPH W) [] [] W :=
  ⟨fun b o h => h, fun b o h => (by cases h), fun b => .inr rfl, rfl, fun v h => by simp at h, fun n b v h => by simp at h, fun n b v a h => by simp at h, fun n m a b c d e h => by simp at h, rfl, rfl, rfl, fun b o h => .inr h⟩
theorem below_of_inv {W w' : World} {hT : ∀ g3 g4, P.globalNamed "unicode/utf8.first" = some g3 → P.globalNamed "unicode/utf8.acceptRanges" = some g4 → Lib.Utf8Tabs g3 g4 W} {Hp : PH} {hs : List Value} {M : List Blk}
    (hle : (heapPH W).le Hp) (h : InvS (baseOf W hT) (fun _ => none) Hp hs M w') : Below W.heap.size W w' := by
  have hblk : ∀ k, k < W.heap.size → w'.heap[k]? = W.heap[k]? := by
    intro k hk
    have e : heapPH W k = some W.heap[k] := Array.getElem?_eq_getElem hk
    rw [h.perm k _ (hle k _ e)]; exact e.symm
  refine ⟨h.os, h.tape, h.output, ?_, hblk⟩
  apply Nat.le_of_not_lt
  intro hc
  have := hblk w'.heap.size hc
  rw [Array.getElem?_eq_none (Nat.le_refl _), Array.getElem?_eq_getElem hc] at this
  cases this
/-- a law that tells true, at the row's start -/
theorem law_calls {f : FuncId} {c : Con} (hc : ConOk P f c) (W : World) (hT : ∀ g3 g4, P.globalNamed "unicode/utf8.first" = some g3 → P.globalNamed "unicode/utf8.acceptRanges" = some g4 → Lib.Utf8Tabs g3 g4 W)
    {ags : List AV} {vs : List Value} (hr : Reps (fun _ => none) (heapPH W) [] ags vs) (hev : ∀ K : AV → List Blk → Prop, K (.b true) [] → c.ev ags [] K) :
    Calls P f vs.toArray W fun e w' => e = .returned (.bool true) ∧ Below W.heap.size W w' := by
  obtain ⟨av, M', ⟨rfl, rfl⟩, hrun⟩ := hc ags [] (fun av M => av = .b true ∧ M = []) (hev _ ⟨rfl, rfl⟩)
  refine Calls.mono (hrun (baseOf W hT) (fun _ => none) (heapPH W) [] W vs (start_inv W hT) hr).2 fun e w' he => ?_
  cases e with
  | returned v =>
    obtain ⟨Hp', hs', hle, _, hi, hv⟩ := he
    cases hv.inv_val
    exact ⟨rfl, below_of_inv hle hi⟩
  | panicked c => exact he.elim
  | outgrown => exact he.elim
/-- strings that came in -/
theorem strs_rep {W : World} {a : Addr} {len cap : Nat} {ss : List ByteArray} (hl : len ≤ cap) (hlen : len ≤ ss.length) (hcell : ∀ i, i < ss.length → W.cell? (a.add i) = some (.string (ss.getD i ByteArray.empty))) :
    Rep (fun _ => none) (heapPH W) [] (.lt .str (ss.take len)) (.slice (some a) len cap) := by
  have e : (ss.take len).length = len := by simp; omega
  have key : Rep (fun _ => none) (heapPH W) [] (.lt .str (ss.take len)) (.slice (some a) (ss.take len).length cap) := by
    refine .lt .str (ss.take len) (some a) cap (fun i => [.string (ss.getD i ByteArray.empty)]) (by rw [e]; exact hl) trivial (fun h => by cases h) ?_ ?_
    · intro i x hx
      have hi : i < len := by have := (List.getElem?_eq_some_iff.1 hx).1; omega
      rw [List.getElem?_take, if_pos hi] at hx
      have : ss.getD i ByteArray.empty = x := by simp [List.getD, hx]
      rw [this]
      exact .cons (.val _) .nil
    · intro i x j c hx hj
      have hi : i < len := by have := (List.getElem?_eq_some_iff.1 hx).1; omega
      have hj0 : j = 0 := by have := (List.getElem?_eq_some_iff.1 hj).1; simp at this; exact this
      subst hj0
      have hc : c = .string (ss.getD i ByteArray.empty) := by simpa using hj.symm
      subst hc
      refine ⟨a, rfl, .inl ?_⟩
      have h := hcell i (by omega)
      simp only [ksz, Nat.mul_one, Nat.add_zero]
      exact h
  rwa [e] at key
/-- a slice that came in, whatever its elements are -/
theorem rep_slice {W : World} {k : Kd} {a : Addr} {len cap : Nat} (X : Nat → El k) (hl : len ≤ cap)
    (h : ∀ i, i < len → ∃ cs', W.cells? 0 (a.add (i * ksz k)) (ksz k) = some cs' ∧ Reps (fun _ => none) (heapPH W) [] (enc k (X i)) cs') :
    Rep (fun _ => none) (heapPH W) [] (.lt k ((List.range len).map X)) (.slice (some a) len cap) := by
  classical
  have e : ((List.range len).map X).length = len := by simp
  have hx : ∀ i x, ((List.range len).map X)[i]? = some x → i < len ∧ X i = x := by
    intro i x hx
    have hi : i < len := by have := (List.getElem?_eq_some_iff.1 hx).1; omega
    rw [List.getElem?_map, List.getElem?_range hi] at hx
    exact ⟨hi, by simpa using hx⟩
  have key : Rep (fun _ => none) (heapPH W) [] (.lt k ((List.range len).map X)) (.slice (some a) ((List.range len).map X).length cap) := by
    refine .lt k _ (some a) cap (fun i => if hi : i < len then Classical.choose (h i hi) else []) (by rw [e]; exact hl) trivial (fun h => by cases h) ?_ ?_
    · intro i x hx'
      obtain ⟨hi, rfl⟩ := hx i x hx'
      simp only [dif_pos hi]
      exact (Classical.choose_spec (h i hi)).2
    · intro i x j c hx' hj
      obtain ⟨hi, rfl⟩ := hx i x hx'
      simp only [dif_pos hi] at hj
      obtain ⟨g1, g2⟩ := Classical.choose_spec (h i hi)
      obtain ⟨_, hlen, hcell⟩ := World.cells?_some g1
      have hjl := (List.getElem?_eq_some_iff.1 hj).1
      have := hcell j (by omega)
      rw [hj, Go.Deep.add_add] at this
      exact ⟨a, rfl, .inl this⟩
  rwa [e] at key
/-- numbers that came in, kept -/
theorem rep_ints {W : World} {k : IntKind} {a : Addr} {len cap : Nat} {zs : List Int} (hl : len ≤ cap) (hm : cap ≤ maxLen) (hlen : len ≤ zs.length) (hcell : ∀ i, i < zs.length → W.cell? (a.add i) = some (.int k (zs.getD i 0))) :
    Rep (fun _ => none) (heapPH W) [] (.sl (.int k) (zs.take len)) (.slice (some a) len cap) := by
  have e : (zs.take len).length = len := by simp; omega
  have key : Rep (fun _ => none) (heapPH W) [] (.sl (.int k) (zs.take len)) (.slice (some a) (zs.take len).length cap) := by
    refine .sl (.int k) (zs.take len) (some a) cap (fun i => [.int k (zs.getD i 0)]) (by rw [e]; exact hl) hm (fun h => by cases h) ?_ ?_
    · intro i x hx
      have hi : i < len := by have := (List.getElem?_eq_some_iff.1 hx).1; omega
      rw [List.getElem?_take, if_pos hi] at hx
      have : zs.getD i 0 = x := by simp [List.getD, hx]
      rw [this]
      exact .cons (.val _) .nil
    · intro i x j c hx hj
      have hi : i < len := by have := (List.getElem?_eq_some_iff.1 hx).1; omega
      have hj0 : j = 0 := by have := (List.getElem?_eq_some_iff.1 hj).1; simp at this; exact this
      subst hj0
      have hc : c = .int k (zs.getD i 0) := by simpa using hj.symm
      subst hc
      refine ⟨a, rfl, ?_⟩
      have h := hcell i (by omega)
      simp only [ksz, Nat.mul_one, Nat.add_zero]
      exact h
  rwa [e] at key
end Go.Sx
end
