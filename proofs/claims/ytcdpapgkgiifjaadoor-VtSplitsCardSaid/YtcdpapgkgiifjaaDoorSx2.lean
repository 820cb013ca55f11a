/- A symbolic evaluator of functions, proved sound against the model. Conditions: none beyond those of the given statement. -/
import Derived.Test.YtcdpapgkgiifjaaDoorSx1
import Derived.Great.BuildSlice
import Derived.Lib.ConvBytes
import Derived.Lib.OthersKept
import Derived.Laws.RangeString
import Derived.Conc.MuLone
set_option linter.unusedVariables false
set_option linter.unusedSimpArgs false
section
namespace Go.Sx
open Go
variable {P : Program} {ty : Ty}

def evStore (ty : Ty) (t : TypeId) (a x : AV) (M : List Blk) (K : AV → List Blk → Prop) : Prop :=
  match ty t with
  | some d => match Nat.beq x.cells.length d.size, x.cells.all AV.one, Nat.ble 1 d.size with
    | true, true, true => match a with
      | .ptr n off => match M[n]? with
        | some (.flat cs) => match Nat.ble (off + x.cells.length) cs.length with
          | true => K .top (M.set n (.flat (putL off x.cells cs)))
          | false => False
        | _ => False
      | .ep n sz i off => match M[n]? with
        | some (.arr k xs) => match Nat.beq sz (ksz k), Nat.ble (off + x.cells.length) (ksz k) with
          | true, true => i < xs.length ∧ match dec k (putL off x.cells (enc k (gt k xs i))) with
            | some y' => K .top (M.set n (.arr k (xs.set i y')))
            | none => False
          | _, _ => False
        | _ => False
      | _ => False
    | _, _, _ => False
  | none => False

theorem evBox_ok {x : AV} {M : List Blk} {K : AV → List Blk → Prop} (h : evBox x M K) : ∃ av M', K av M' ∧ ∀ (P : Program) (w0 : Base P) F Hp hs w u t, InvS w0 F Hp hs M w → Rep F Hp hs x u →
    ∃ v ex w', (Instr.box t u).run P w = .ok v w' ∧ InvS w0 F Hp (hs ++ ex) M' w' ∧ Rep F Hp (hs ++ ex) av v := by
  unfold evBox at h
  split at h
  · exact h.elim
  · rename_i c cs hc
    refine ⟨_, _, h, fun P w0 F Hp hs w u t hi hu => ?_⟩
    have hr := cells_ok hi hu (by rw [hc]; simp)
    refine ⟨.pointer (some ⟨w.heap.size, 0, none⟩), [.pointer (some ⟨w.heap.size, 0, none⟩)], w.alloc (.cells u.cells t), ?_, ?_, ?_⟩
    · simp [Instr.box, newVar, newRow]
    · refine hi.add _ _ (fun k hk => heap_alloc_ne w _ (by omega)) rfl rfl rfl rfl (fun b hb => by simp [idOf] at hb; omega) ?_
      refine ⟨w.heap.size, t, u.cells.toList, rfl, by simpa using heap_alloc_at w (.cells u.cells t), ?_⟩
      rw [← hc]
      exact hr.mono (PH.le.refl _) (PH.le.refl _) (HL.append _ _)
    · refine .ptr _ _ _ ?_
      rw [List.getElem?_append_right (by rw [hi.len]; exact Nat.le_refl _), hi.len]; simp
theorem reps_vals {F Hp : PH} {hs : List Value} (l : List Value) : Reps F Hp hs (l.map AV.val) l := by
  induction l with
  | nil => exact .nil
  | cons x l ih => exact .cons (.val x) ih
theorem evAlloc_ok (hty : TyOk P ty) {t : TypeId} {M : List Blk} {K : AV → List Blk → Prop} (h : evAlloc ty t M K) : ∃ av M', K av M' ∧ ∀ (w0 : Base P) F Hp hs w, InvS w0 F Hp hs M w →
    ∃ v ex w', (Instr.alloc t true (.tuple #[])).run P w = .ok v w' ∧ InvS w0 F Hp (hs ++ ex) M' w' ∧ Rep F Hp (hs ++ ex) av v := by
  unfold evAlloc at h
  split at h
  · rename_i d hd
    refine ⟨_, _, h, fun w0 F Hp hs w hi => ?_⟩
    obtain ⟨u, i, row⟩ := hty t d hd
    obtain ⟨z, hz1, hz2⟩ := row.zero
    have hzv : (zeroValue t).run P w = .ok z w := by simp [zeroValue, row.run_info, hz1]
    refine ⟨.pointer (some ⟨w.heap.size, 0, none⟩), [.pointer (some ⟨w.heap.size, 0, none⟩)], w.alloc (.cells z.cells t), ?_, ?_, ?_⟩
    · simp [Instr.alloc, hzv, newVar, newRow]
    · refine hi.add _ _ (fun k hk => heap_alloc_ne w _ (by omega)) rfl rfl rfl rfl (fun b hb => by simp [idOf] at hb; omega) ?_
      exact ⟨w.heap.size, t, d.zero, rfl, by rw [← hz2]; simpa using heap_alloc_at w (.cells z.cells t), reps_vals _⟩
    · refine .ptr _ _ _ ?_
      rw [List.getElem?_append_right (by rw [hi.len]; exact Nat.le_refl _), hi.len]; simp
  · exact h.elim
theorem evAlloc_okX (hty : TyOk P ty) {t : TypeId} {M : List Blk} {K : AV → List Blk → Prop} (h : evAlloc ty t M K) : ∃ av M', K av M' ∧ (∃ T, M' = M ++ T) ∧ ∀ (w0 : Base P) F Hp hs w, InvS w0 F Hp hs M w →
    ∃ v ex w', (Instr.alloc t true (.tuple #[])).run P w = .ok v w' ∧ InvS w0 F Hp (hs ++ ex) M' w' ∧ Rep F Hp (hs ++ ex) av v ∧ ∀ k : Nat, k < w.heap.size → w'.heap[k]? = w.heap[k]? := by
  unfold evAlloc at h
  split at h
  · rename_i d hd
    refine ⟨_, _, h, ⟨_, rfl⟩, fun w0 F Hp hs w hi => ?_⟩
    obtain ⟨u, i, row⟩ := hty t d hd
    obtain ⟨z, hz1, hz2⟩ := row.zero
    have hzv : (zeroValue t).run P w = .ok z w := by simp [zeroValue, row.run_info, hz1]
    refine ⟨.pointer (some ⟨w.heap.size, 0, none⟩), [.pointer (some ⟨w.heap.size, 0, none⟩)], w.alloc (.cells z.cells t), ?_, ?_, ?_, fun k hk => heap_alloc_ne w _ (by omega)⟩
    · simp [Instr.alloc, hzv, newVar, newRow]
    · refine hi.add _ _ (fun k hk => heap_alloc_ne w _ (by omega)) rfl rfl rfl rfl (fun b hb => by simp [idOf] at hb; omega) ?_
      exact ⟨w.heap.size, t, d.zero, rfl, by rw [← hz2]; simpa using heap_alloc_at w (.cells z.cells t), reps_vals _⟩
    · refine .ptr _ _ _ ?_
      rw [List.getElem?_append_right (by rw [hi.len]; exact Nat.le_refl _), hi.len]; simp
  · exact h.elim

theorem run_storeVar_at {t : TypeId} {d : TD} {u : TypeDesc} {i : TypeInfo} (row : TyRow P t d u i) {w : World} {b o : Nat} {c : List Value} {T : TypeId} {v : Value}
    (hb : w.heap[b]? = some (.cells c.toArray T (0, 0))) (hsz : v.cells.size = d.size) (ho : o + v.cells.size ≤ c.length) (h1 : ∀ x ∈ v.cells.toList, x.oneCell' = true) :
    (storeVar t ⟨b, o, none⟩ v).run P w = .ok () (w.setRow b (spl c o v.cells.toList).toArray) := by
  unfold storeVar
  simp only [Sem.run_bind, row.run_size, Result.andThen_ok]
  rw [if_neg (by omega)]
  have := run_storeCells_at P b o T v.cells.toList 0 c.toArray w hb (by simpa using ho) h1
  simp only [Nat.add_zero] at this
  simpa [spl] using this
theorem mem_one {w0 : Base P} {w : World} {F Hp : PH} {hs : List Value} {M : List Blk} (hi : InvS w0 F Hp hs M w) {xs : List AV} {vs : List Value} (h : Reps F Hp hs xs vs) (ha : xs.all AV.one = true) : ∀ v ∈ vs, v.oneCell' = true := by
  intro v hv
  obtain ⟨i, hi'⟩ := List.getElem?_of_mem hv
  obtain ⟨x, e1, e2⟩ := h.getv i v hi'
  exact one_ok hi e2 (List.all_eq_true.1 ha x (List.mem_of_getElem? e1))

theorem evStore_ok (hty : TyOk P ty) {t : TypeId} {a x : AV} {M : List Blk} {K : AV → List Blk → Prop} (h : evStore ty t a x M K) : ∃ M', K .top M' ∧ ∀ (w0 : Base P) F Hp hs w ua ux, InvS w0 F Hp hs M w → Rep F Hp hs a ua → Rep F Hp hs x ux →
    ∃ w', (Instr.storeAt t ua ux).run P w = .ok () w' ∧ InvS w0 F Hp hs M' w' := by
  unfold evStore at h
  split at h
  · rename_i d hd
    obtain ⟨ud, ti, row⟩ := hty t d hd
    split at h
    · rename_i e1 e2 e3
      have e1 := beq_nat e1
      have e3 := Nat.le_of_ble_eq_true e3
      have hne : x.cells ≠ [] := fun e => by rw [e] at e1; simp at e1; omega
      split at h
      · rename_i n off
        split at h
        · rename_i cs hm
          split at h
          · rename_i hle
            have hle := Nat.le_of_ble_eq_true hle
            refine ⟨_, h, fun w0 F Hp hs w ua ux hi ha hx => ?_⟩
            cases ha with
            | ptr _ _ b hn =>
              obtain ⟨b', T, vs, e, g1, g2⟩ := hi.blk n _ _ hm hn
              cases e
              have hr := cells_ok hi hx hne
              have hlen := hr.length
              have hvl := g2.length
              refine ⟨w.setRow b (spl vs off ux.cells.toList).toArray, ?_, ?_⟩
              · have := run_storeVar_at row (o := off) (v := ux) g1 (by rw [← e1, hlen]; simp) (by simp at hlen; omega) (mem_one hi hr e2)
                simp [Instr.storeAt, Instr.sureAddr, this]
              · refine hi.turn hm rfl hn rfl (Turned.setRow g1) ⟨b, T, _, rfl, (Turned.setRow g1).at_, ?_⟩
                rw [putL_get _ _ _ hle]
                exact g2.spl hr
          · exact h.elim
        · exact h.elim
      · rename_i n sz i off
        split at h
        · rename_i k xs hm
          split at h
          · rename_i hsz hle
            have hsz := beq_nat hsz
            have hle := Nat.le_of_ble_eq_true hle
            obtain ⟨hlt, h⟩ := h
            split at h
            · rename_i y' hdec
              refine ⟨_, h, fun w0 F Hp hs w ua ux hi ha hx => ?_⟩
              cases ha with
              | ep _ _ _ _ b l c hn =>
                obtain ⟨A, cap, e, q1, q2, q3, q4⟩ := hi.blk n _ _ hm hn
                cases e
                obtain ⟨b', T, cc, e5, g1, g2, g3⟩ := q4 _ rfl
                cases e5
                have hr := cells_ok hi hx hne
                have hlen := hr.length
                have hul : ux.cells.toList.length = ux.cells.size := by simp
                have hmul : (i + 1) * ksz k ≤ c * ksz k := Nat.mul_le_mul_right _ (by omega)
                have hmul2 : (i + 1) * ksz k = i * ksz k + ksz k := by rw [Nat.add_mul]; omega
                have hfit : i * sz + off + ux.cells.toList.length ≤ cc.length := by rw [hsz, g2]; omega
                refine ⟨w.setRow b (spl cc (i * sz + off) ux.cells.toList).toArray, ?_, ?_⟩
                · have := run_storeVar_at row (o := i * sz + off) (v := ux) g1 (by rw [← e1, hlen]; simp) (by omega) (mem_one hi hr e2)
                  simp [Instr.storeAt, Instr.sureAddr, this]
                · refine hi.turn hm rfl hn rfl (Turned.setRow g1) ?_
                  refine ⟨some ⟨b, 0, none⟩, c, by simp, by simpa using q1, q2, (fun e => by cases e), fun a ha => ?_⟩
                  cases ha
                  refine ⟨b, T, _, rfl, (Turned.setRow g1).at_, by rw [spl_len hfit, g2], fun j y hy => ?_⟩
                  rw [List.getElem?_set] at hy
                  have hcell : ∀ q, q < ksz k → (elCells (spl cc (i * sz + off) ux.cells.toList) (ksz k) j)[q]? = if j = i ∧ off ≤ q ∧ q < off + ux.cells.toList.length then ux.cells.toList[q - off]? else (elCells cc (ksz k) j)[q]? := by
                    intro q hq
                    rw [elCells_get hq, elCells_get hq, spl_get hfit, hsz]
                    by_cases hj : j = i
                    · subst hj
                      by_cases h1 : off ≤ q ∧ q < off + ux.cells.toList.length
                      · rw [if_neg (show ¬ j * ksz k + q < j * ksz k + off by omega), if_pos (show j * ksz k + q < j * ksz k + off + ux.cells.toList.length by omega), if_pos (show j = j ∧ off ≤ q ∧ q < off + ux.cells.toList.length from ⟨rfl, h1⟩)]
                        congr 1; omega
                      · rw [if_neg (show ¬ (j = j ∧ off ≤ q ∧ q < off + ux.cells.toList.length) from fun e => h1 e.2)]
                        by_cases h2 : j * ksz k + q < j * ksz k + off
                        · rw [if_pos h2]
                        · rw [if_neg h2, if_neg (by omega)]
                    · rw [if_neg (show ¬ (j = i ∧ off ≤ q ∧ q < off + ux.cells.toList.length) from fun e => hj e.1)]
                      by_cases h2 : j < i
                      · have : (j + 1) * ksz k ≤ i * ksz k := Nat.mul_le_mul_right _ h2
                        rw [Nat.add_mul] at this
                        rw [if_pos (by omega)]
                      · have : (i + 1) * ksz k ≤ j * ksz k := Nat.mul_le_mul_right _ (by omega)
                        rw [if_neg (by omega), if_neg (by omega)]
                  have hlenj : ∀ j, j < xs.length → (elCells (spl cc (i * sz + off) ux.cells.toList) (ksz k) j).length = ksz k ∧ (elCells cc (ksz k) j).length = ksz k := by
                    intro j hj
                    have : (j + 1) * ksz k ≤ c * ksz k := Nat.mul_le_mul_right _ (by omega)
                    rw [Nat.add_mul] at this
                    constructor
                    · unfold elCells; rw [List.length_take, List.length_drop, spl_len hfit, g2]; omega
                    · unfold elCells; rw [List.length_take, List.length_drop, g2]; omega
                  split at hy
                  · rename_i e
                    subst e
                    cases hy
                    apply dec_ok hdec
                    rw [putL_get _ _ _ (by rw [enc_len]; exact hle)]
                    have hold := g3 i _ (gt_lt hlt)
                    have hnew := hold.spl (o := off) hr
                    have : Go.Sx.spl (elCells cc (ksz k) i) off ux.cells.toList = elCells (Go.Sx.spl cc (i * sz + off) ux.cells.toList) (ksz k) i := by
                      apply List.ext_getElem?
                      intro q
                      have hl1 := (hlenj i hlt).1
                      have hl2 := (hlenj i hlt).2
                      rw [spl_get (by rw [hl2]; omega)]
                      by_cases hq : q < ksz k
                      · rw [hcell q hq]
                        by_cases h1 : q < off
                        · rw [if_pos h1, if_neg (by omega)]
                        · rw [if_neg h1]
                          by_cases h2 : q < off + ux.cells.toList.length
                          · rw [if_pos h2, if_pos ⟨rfl, by omega, h2⟩]
                          · rw [if_neg h2, if_neg (by omega)]
                      · have hr1 : (elCells (Go.Sx.spl cc (i * sz + off) ux.cells.toList) (ksz k) i)[q]? = none := List.getElem?_eq_none (by omega)
                        rw [hr1, if_neg (by omega), if_neg (by omega), List.getElem?_eq_none (by omega)]
                    rw [← this]; exact hnew
                  · rename_i e
                    have hjl : j < xs.length := (List.getElem?_eq_some_iff.1 hy).1
                    have hold := g3 j y hy
                    have : elCells (Go.Sx.spl cc (i * sz + off) ux.cells.toList) (ksz k) j = elCells cc (ksz k) j := by
                      apply List.ext_getElem?
                      intro q
                      have hl1 := (hlenj j hjl).1
                      have hl2 := (hlenj j hjl).2
                      by_cases hq : q < ksz k
                      · rw [hcell q hq, if_neg (fun e' => e e'.1.symm)]
                      · rw [List.getElem?_eq_none (by omega), List.getElem?_eq_none (by omega)]
                    rw [this]; exact hold
            · exact h.elim
          · exact h.elim
        · exact h.elim
      · exact h.elim
    · exact h.elim
  · exact h.elim
end Go.Sx
end
section
namespace Go.Sx
open Go
variable {P : Program} {ty : Ty}

theorem enc_one (k : Kd) (y : El k) : (enc k y).all AV.one = true := by cases k <;> first | rfl | (cases y <;> rfl)

theorem elCells_cons {cs news : List Value} {sz i : Nat} (h : cs.length = sz) : elCells (cs ++ news) sz (i + 1) = elCells news sz i := by
  unfold elCells
  rw [Nat.add_mul, Nat.one_mul, Nat.add_comm, List.drop_append, List.drop_eq_nil_of_le (by omega), List.nil_append, h]
  congr 2; omega
theorem elCells_zero {cs news : List Value} {sz : Nat} (h : cs.length = sz) : elCells (cs ++ news) sz 0 = cs := by
  unfold elCells
  simp [h]
theorem gather {F Hp : PH} {hs : List Value} {k : Kd} (Q : Nat → Value → Prop) : ∀ (xs : List (El k)) (o : Nat),
    (∀ i x, xs[i]? = some x → ∃ cs, Reps F Hp hs (enc k x) cs ∧ ∀ j c, cs[j]? = some c → Q (o + i * ksz k + j) c) →
    ∃ news : List Value, news.length = xs.length * ksz k ∧ (∀ j u, news[j]? = some u → Q (o + j) u) ∧ ∀ i x, xs[i]? = some x → Reps F Hp hs (enc k x) (elCells news (ksz k) i) := by
  intro xs
  induction xs with
  | nil => intro o _; exact ⟨[], by simp, fun j u h => by simp at h, fun i x h => by simp at h⟩
  | cons x xs ih =>
    intro o h
    obtain ⟨cs, h1, h2⟩ := h 0 x rfl
    have hl : cs.length = ksz k := by rw [← h1.length, enc_len]
    obtain ⟨news, g1, g2, g3⟩ := ih (o + ksz k) (fun i y hy => by
      obtain ⟨cs', e1, e2⟩ := h (i + 1) y (by simpa using hy)
      refine ⟨cs', e1, fun j c hc => ?_⟩
      have := e2 j c hc
      rw [Nat.add_mul, Nat.one_mul] at this
      rw [show o + ksz k + i * ksz k + j = o + (i * ksz k + ksz k) + j by omega]
      exact this)
    refine ⟨cs ++ news, by rw [List.length_append, hl, g1, List.length_cons, Nat.add_mul]; omega, fun j u hu => ?_, fun i y hy => ?_⟩
    · by_cases hj : j < cs.length
      · rw [List.getElem?_append_left hj] at hu
        have := h2 j u hu
        simpa using this
      · rw [List.getElem?_append_right (by omega)] at hu
        have := g2 _ u hu
        rw [hl] at this
        rw [show o + j = o + ksz k + (j - ksz k) by omega]
        exact this
    · cases i with
      | zero => simp at hy; subst hy; rw [elCells_zero hl]; exact h1
      | succ i => rw [elCells_cons hl]; exact g3 i y (by simpa using hy)
theorem RdW.gather {F Hp : PH} {hs : List Value} {w : World} {k : Kd} {A : Option Addr} {xs : List (El k)} (h : RdW F Hp hs w k A xs) :
    ∃ news : List Value, news.length = xs.length * ksz k ∧ (∀ j u, news[j]? = some u → ∃ a, A = some a ∧ w.cell? (a.add j) = some u) ∧ ∀ i x, xs[i]? = some x → Reps F Hp hs (enc k x) (elCells news (ksz k) i) := by
  have := Go.Sx.gather (F := F) (Hp := Hp) (hs := hs) (k := k) (fun j u => ∃ a, A = some a ∧ w.cell? (a.add j) = some u) xs 0 (fun i x hx => by
    obtain ⟨cs, h1, h2⟩ := h i x hx
    exact ⟨cs, h1, fun j c hc => by rw [Nat.zero_add]; exact h2 j c hc⟩)
  simpa using this
theorem one_of_el {w0 : Base P} {w : World} {F Hp : PH} {hs : List Value} {M : List Blk} (hi : InvS w0 F Hp hs M w) {k : Kd} {xs : List (El k)} {news : List Value} (hl : news.length = xs.length * ksz k)
    (h : ∀ i x, xs[i]? = some x → Reps F Hp hs (enc k x) (elCells news (ksz k) i)) : ∀ u ∈ news, u.oneCell' = true := by
  intro u hu
  obtain ⟨j, hj⟩ := List.getElem?_of_mem hu
  have hjl : j < news.length := (List.getElem?_eq_some_iff.1 hj).1
  have hk : 0 < ksz k := by cases k <;> simp [ksz]
  have hq : j / ksz k < xs.length := by
    rw [Nat.div_lt_iff_lt_mul hk]; omega
  have hr := h _ _ (List.getElem?_eq_getElem hq)
  refine mem_one hi hr (enc_one _ _) u ?_
  have : (elCells news (ksz k) (j / ksz k))[j % ksz k]? = some u := by
    rw [elCells_get (Nat.mod_lt _ hk)]
    rw [Nat.mul_comm, Nat.div_add_mod]; exact hj
  exact List.mem_of_getElem? this

def kdOf (ty : Ty) (e : TypeId) : Option Kd := (ty e).bind TD.kd
def evAppend (ty : Ty) (t t' : TypeId) (s x : AV) (M : List Blk) (K : AV → List Blk → Prop) : Prop :=
  match Nat.beq t t', ty t with
  | true, some d => match d.k with
    | .slice e => match ty e with
      | some de => match s with
        | .own n => match M[n]? with
          | some (.arr k xs) => match Nat.beq de.size (ksz k), rdL M k x with
            | true, some ys => rdG M x ((xs.length + ys.length ≤ 140737488355328 ∧ (xs.length + ys.length) * de.bytes ≤ 140737488355328) ∧ K (.own M.length) (M.set n .dead ++ [.arr k (xs ++ ys)]))
            | _, _ => False
          | _ => False
        | .val (.slice none 0 0) => match de.kd with
          | some k => match Nat.beq de.size (ksz k), rdL M k x with
            | true, some ys => rdG M x ((ys.length ≤ 140737488355328 ∧ ys.length * de.bytes ≤ 140737488355328) ∧ K (.own M.length) (M ++ [.arr k ys]))
            | _, _ => False
          | none => False
        | _ => False
      | none => False
    | _ => False
  | _, _ => False

/-- what append leaves of a slice that is one's own -/
theorem append_run {w0 : Base P} {w : World} {F Hp : PH} {hs : List Value} {M : List Blk} (hi : InvS w0 F Hp hs M w) {t e : TypeId} {d de : TD} {ti ie : TypeInfo} {ue : TypeDesc}
    (row : TyRow P t d (.slice e) ti) (erow : TyRow P e de ue ie) {k : Kd} (hsz : de.size = ksz k) {xs ys : List (El k)} {v : Value} (hb : BlkAt F Hp hs w v (.arr k xs)) {A : Option Addr} {c : Nat}
    (hrd : RdW F Hp hs w k A ys) (h1 : xs.length + ys.length ≤ 140737488355328) (h2 : (xs.length + ys.length) * de.bytes ≤ 140737488355328) (T : TypeId) :
    ∃ v' w', (Builtin.append_ #[t, t] T #[v, .slice A ys.length c]).run P w = .ok v' w' ∧ v'.oneCell' = true ∧ w'.os = w.os ∧ w'.tape = w.tape ∧ w'.output = w.output ∧
      BlkAt F Hp hs w' v' (.arr k (xs ++ ys)) ∧ w.heap.size ≤ w'.heap.size ∧
      ((v'  = .slice none 0 0 ∧ w' = w) ∨ (∃ b, idOf v' = some b ∧ ((b = w.heap.size ∧ ∀ q : Nat, q < w.heap.size → w'.heap[q]? = w.heap[q]?) ∨ (idOf v = some b ∧ ∀ q : Nat, q ≠ b → w'.heap[q]? = w.heap[q]?)))) := by
  obtain ⟨news, n1, n2, n3⟩ := hrd.gather
  have hone := one_of_el hi n1 n3
  obtain ⟨z, hz1, hz2⟩ := erow.zero
  have hzs : z.cells.size = ie.size := by rw [erow.size, ← erow.zlen, ← hz2]; simp
  have hk : 0 < ksz k := by cases k <;> simp [ksz]
  have hmax : xs.length + ys.length ≤ maxLen := by simp only [maxLen]; omega
  have hml : maxLen = 9223372036854775807 := by simp [maxLen]
  obtain ⟨B, cap, rfl, q1, q2, q3, q4⟩ := hb
  -- nothing is appended to nothing
  have hnews0 : ys = [] → news = [] := fun e => by subst e; simpa using n1
  have hies : ie.size = ksz k := by rw [erow.size, hsz]
  have hn1' : news.length = ys.length * ie.size := by rw [hies, n1]
  cases A with
  | none =>
    have hys : ys = [] := by
      cases ys with
      | nil => rfl
      | cons y ys =>
        have hne : news ≠ [] := by
          intro e; rw [e] at n1; simp [Nat.add_mul] at n1; omega
        obtain ⟨u, us, hu⟩ := List.exists_cons_of_ne_nil hne
        obtain ⟨a, ha, _⟩ := n2 0 u (by rw [hu]; rfl)
        cases ha
    subst hys
    refine ⟨.slice B xs.length cap, w, ?_, rfl, rfl, rfl, rfl, ⟨B, cap, by simp, by simpa using q1, q2, q3, by simpa using q4⟩, Nat.le_refl _, ?_⟩
    · cases B <;> simp [Builtin.append_, row.run_und, erow.run_size, Builtin.lenOf, Builtin.firstCells, q1, storeCells]
    · cases B with
      | none =>
        have := q3 rfl
        have hx : xs.length = 0 := by omega
        exact .inl ⟨by rw [this, hx], rfl⟩
      | some a => exact .inr ⟨a.block, rfl, .inr ⟨rfl, fun q _ => rfl⟩⟩
  | some a =>
    have hcells : ∀ j u, news[j]? = some u → w.cell? (a.add j) = some u := by
      intro j u hu
      obtain ⟨a', e, g⟩ := n2 j u hu
      cases e; exact g
    -- a new row
    have grown : ∀ (olds : List Value), olds.length = xs.length * ksz k → (∀ i x, xs[i]? = some x → Reps F Hp hs (enc k x) (elCells olds (ksz k) i)) → ∀ old, old < xs.length + ys.length →
        BlkAt F Hp hs (w.drew.alloc (.cells (olds.toArray ++ news.toArray ++ Builtin.zeroCells z.cells (grownCap w (xs.length + ys.length) old e - (xs.length + ys.length))) e))
          (.slice (some ⟨w.heap.size, 0, none⟩) (xs.length + ys.length) (grownCap w (xs.length + ys.length) old e)) (.arr k (xs ++ ys)) := by
      intro olds ho1 ho2 old hold
      have hge := grownCap_ge w (xs.length + ys.length) old e
      have hcm := grownCap_le_maxLen w (xs.length + ys.length) old e hmax
      refine ⟨some ⟨w.heap.size, 0, none⟩, grownCap w (xs.length + ys.length) old e, by simp, by simpa using hge, hcm, (fun e => by cases e), fun a' ha' => ?_⟩
      cases ha'
      refine ⟨w.heap.size, e, (olds ++ news) ++ (Builtin.zeroCells z.cells (grownCap w (xs.length + ys.length) old e - (xs.length + ys.length))).toList, rfl, ?_, ?_, ?_⟩
      · have := heap_alloc_at w.drew (.cells (olds.toArray ++ news.toArray ++ Builtin.zeroCells z.cells (grownCap w (xs.length + ys.length) old e - (xs.length + ys.length))) e)
        rw [show w.drew.heap.size = w.heap.size from rfl] at this
        rw [this]; congr 2
        simp
      · have hzl : (Builtin.zeroCells z.cells (grownCap w (xs.length + ys.length) old e - (xs.length + ys.length))).toList.length = (grownCap w (xs.length + ys.length) old e - (xs.length + ys.length)) * ksz k := by
          rw [Array.length_toList, size_zeroCells, hzs, hies]
        rw [List.length_append, List.length_append, ho1, n1, hzl, ← Nat.add_mul, ← Nat.add_mul]
        congr 1; omega
      · intro i x hx
        by_cases hlt : i < xs.length
        · rw [List.getElem?_append_left hlt] at hx
          have := ho2 i x hx
          have e : elCells ((olds ++ news) ++ (Builtin.zeroCells z.cells (grownCap w (xs.length + ys.length) old e - (xs.length + ys.length))).toList) (ksz k) i = elCells olds (ksz k) i := by
            have hm : (i + 1) * ksz k ≤ xs.length * ksz k := Nat.mul_le_mul_right _ hlt
            rw [Nat.add_mul] at hm
            apply List.ext_getElem?
            intro q
            by_cases hq : q < ksz k
            · rw [elCells_get hq, elCells_get hq, List.append_assoc, List.getElem?_append_left (by omega)]
            · have l1 : ∀ c : List Value, (elCells c (ksz k) i)[q]? = none := fun c => by
                rw [List.getElem?_eq_none]; unfold elCells; rw [List.length_take]; omega
              rw [l1, l1]
          rw [e]; exact this
        · have hi' : i < (xs ++ ys).length := (List.getElem?_eq_some_iff.1 hx).1
          rw [List.length_append] at hi'
          rw [List.getElem?_append_right (by omega)] at hx
          have := n3 _ x hx
          have e : elCells ((olds ++ news) ++ (Builtin.zeroCells z.cells (grownCap w (xs.length + ys.length) old e - (xs.length + ys.length))).toList) (ksz k) i = elCells news (ksz k) (i - xs.length) := by
            have hm : (i - xs.length + 1) * ksz k ≤ ys.length * ksz k := Nat.mul_le_mul_right _ (by omega)
            rw [Nat.add_mul] at hm
            have hm2 : i * ksz k = xs.length * ksz k + (i - xs.length) * ksz k := by rw [← Nat.add_mul]; congr 1; omega
            apply List.ext_getElem?
            intro q
            by_cases hq : q < ksz k
            · rw [elCells_get hq, elCells_get hq, List.append_assoc, List.getElem?_append_right (by omega), List.getElem?_append_left (by omega)]
              congr 1; omega
            · have l1 : ∀ (c : List Value) i, (elCells c (ksz k) i)[q]? = none := fun c i => by
                rw [List.getElem?_eq_none]; unfold elCells; rw [List.length_take]; omega
              rw [l1, l1]
          rw [e]; exact this
    cases B with
    | none =>
      have hc0 := q3 rfl
      have hx : xs = [] := List.eq_nil_of_length_eq_zero (by omega)
      subst hx
      by_cases hm : ys = []
      · subst hm
        have hn := hnews0 rfl
        subst hn
        refine ⟨.slice none 0 0, w, ?_, rfl, rfl, rfl, rfl, ⟨none, 0, rfl, by simp, by simp [maxLen], fun _ => rfl, fun a ha => by cases ha⟩, Nat.le_refl _, .inl ⟨rfl, rfl⟩⟩
        subst hc0
        simp [Builtin.append_, row.run_und, erow.run_size, Builtin.lenOf, Builtin.firstCells, loadCells, loadCellsFrom]
      · have hyl : 0 < ys.length := List.length_pos_iff.2 hm
        have hr := run_append_nil (P := P) w t T e ie z row.und erow.info hz1 a ys.length c news hn1' hcells (by omega) (by simp at h1; omega) (by rw [erow.bytes]; simp at h2; omega)
        have hg := grown [] (by simp) (fun i x hx => by simp at hx) 0 (by simpa using hyl)
        simp only [List.length_nil, Nat.zero_add, List.nil_append] at hg hr
        subst hc0
        refine ⟨_, _, hr, rfl, rfl, rfl, rfl, by simpa using hg, by simp, .inr ⟨w.heap.size, rfl, .inl ⟨rfl, fun q hq => heap_alloc_ne w.drew _ (by simp; omega)⟩⟩⟩
    | some ab =>
      obtain ⟨b, TT, cur, rfl, g1, g2, g3⟩ := q4 ab rfl
      by_cases hroom : xs.length + ys.length ≤ cap
      · have hfit : xs.length * ksz k + news.length ≤ cur.length := by rw [n1, g2, ← Nat.add_mul]; exact Nat.mul_le_mul_right _ hroom
        have hf := run_firstCells_some (P := P) w ie.size ys.length a ys.length c news hn1' hcells
        have hst := run_storeCells_at P b (xs.length * ksz k) TT news 0 cur.toArray w g1 (by simpa using hfit) hone
        simp only [Nat.add_zero] at hst
        have hT := Turned.setRow (c' := (cur.take (xs.length * ksz k) ++ news ++ cur.drop (xs.length * ksz k + news.length)).toArray) g1
        refine ⟨.slice (some ⟨b, 0, none⟩) (xs.length + ys.length) cap, w.setRow b (cur.take (xs.length * ksz k) ++ news ++ cur.drop (xs.length * ksz k + news.length)).toArray, ?_, rfl, rfl, rfl, rfl, ?_, by simp [World.setRow], .inr ⟨b, rfl, .inr ⟨rfl, hT.other⟩⟩⟩
        · rw [hies] at hf
          have hes : ∀ w, (sizeOf e).run P w = .ok (ksz k) w := fun w => by rw [erow.run_size, hsz]
          simp [Builtin.append_, row.run_und, hes, Builtin.lenOf, hroom, hf, Addr.add_lit, hst]
        · refine ⟨some ⟨b, 0, none⟩, cap, by simp, by simpa using hroom, q2, (fun e => by cases e), fun a' ha' => ?_⟩
          cases ha'
          refine ⟨b, TT, spl cur (xs.length * ksz k) news, rfl, hT.at_, by rw [spl_len hfit, g2], fun i x hx => ?_⟩
          by_cases hlt : i < xs.length
          · rw [List.getElem?_append_left hlt] at hx
            have := g3 i x hx
            have e : elCells (spl cur (xs.length * ksz k) news) (ksz k) i = elCells cur (ksz k) i := by
              have hm : (i + 1) * ksz k ≤ xs.length * ksz k := Nat.mul_le_mul_right _ hlt
              rw [Nat.add_mul] at hm
              apply List.ext_getElem?
              intro q
              by_cases hq : q < ksz k
              · rw [elCells_get hq, elCells_get hq, spl_get hfit, if_pos (by omega)]
              · have l1 : ∀ c : List Value, (elCells c (ksz k) i)[q]? = none := fun c => by
                  rw [List.getElem?_eq_none]; unfold elCells; rw [List.length_take]; omega
                rw [l1, l1]
            rw [e]; exact this
          · have hi' : i < (xs ++ ys).length := (List.getElem?_eq_some_iff.1 hx).1
            rw [List.length_append] at hi'
            rw [List.getElem?_append_right (by omega)] at hx
            have := n3 _ x hx
            have e : elCells (spl cur (xs.length * ksz k) news) (ksz k) i = elCells news (ksz k) (i - xs.length) := by
              have hm : (i - xs.length + 1) * ksz k ≤ ys.length * ksz k := Nat.mul_le_mul_right _ (by omega)
              rw [Nat.add_mul] at hm
              have hm2 : i * ksz k = xs.length * ksz k + (i - xs.length) * ksz k := by rw [← Nat.add_mul]; congr 1; omega
              apply List.ext_getElem?
              intro q
              by_cases hq : q < ksz k
              · rw [elCells_get hq, elCells_get hq, spl_get hfit, if_neg (by omega), if_pos (by omega)]
                congr 1; omega
              · have l1 : ∀ (c : List Value) i, (elCells c (ksz k) i)[q]? = none := fun c i => by
                  rw [List.getElem?_eq_none]; unfold elCells; rw [List.length_take]; omega
                rw [l1, l1]
            rw [e]; exact this
      · have holds : ∀ j u, (cur.take (xs.length * ksz k))[j]? = some u → w.cell? ((⟨b, 0, none⟩ : Addr).add j) = some u := by
          intro j u hu
          rw [List.getElem?_take] at hu
          split at hu
          · rw [Addr.add_lit]; simp only [World.cell?, g1]; simpa using hu
          · cases hu
        have hol : (cur.take (xs.length * ksz k)).length = xs.length * ksz k := by
          rw [List.length_take, g2]
          have : xs.length * ksz k ≤ cap * ksz k := Nat.mul_le_mul_right _ q1
          omega
        have hr := run_append_grow (P := P) w t T e ie z row.und erow.info hz1 ⟨b, 0, none⟩ xs.length cap (cur.take (xs.length * ksz k)) (by rw [hol, hies]) holds a ys.length c news hn1' hcells (by omega) (by omega) (growslice_fits (by omega) (by rw [erow.bytes]; exact h2))
        have hg := grown (cur.take (xs.length * ksz k)) hol (fun i x hx => by
          have hlt : i < xs.length := (List.getElem?_eq_some_iff.1 hx).1
          have := g3 i x hx
          have e : elCells (cur.take (xs.length * ksz k)) (ksz k) i = elCells cur (ksz k) i := by
            have hm : (i + 1) * ksz k ≤ xs.length * ksz k := Nat.mul_le_mul_right _ hlt
            rw [Nat.add_mul] at hm
            apply List.ext_getElem?
            intro q
            by_cases hq : q < ksz k
            · rw [elCells_get hq, elCells_get hq, List.getElem?_take, if_pos (by omega)]
            · have l1 : ∀ c : List Value, (elCells c (ksz k) i)[q]? = none := fun c => by
                rw [List.getElem?_eq_none]; unfold elCells; rw [List.length_take]; omega
              rw [l1, l1]
          rw [e]; exact this) cap (by omega)
        exact ⟨_, _, hr, rfl, rfl, rfl, rfl, hg, by simp, .inr ⟨w.heap.size, rfl, .inl ⟨rfl, fun q hq => heap_alloc_ne w.drew _ (by simp; omega)⟩⟩⟩
/-- a new name in the world ags it is -/
theorem InvS.add2 {w0 : Base P} {w : World} {F Hp : PH} {hs : List Value} {M : List Blk} (h : InvS w0 F Hp hs M w) (blk : Blk) (v : Value) (hone : v.oneCell' = true)
    (hid : ∀ b, idOf v = some b → Hp b = none ∧ F b = none ∧ ∀ (m : Nat) blk' h', M[m]? = some blk' → blk'.live = true → hs[m]? = some h' → idOf h' ≠ some b) (hb : BlkAt F Hp (hs ++ [v]) w v blk) : InvS w0 F Hp (hs ++ [v]) (M ++ [blk]) w := by
  have key : ∀ (n : Nat) blk' v', (M ++ [blk])[n]? = some blk' → (hs ++ [v])[n]? = some v' → (M[n]? = some blk' ∧ hs[n]? = some v') ∨ (n = M.length ∧ blk' = blk ∧ v' = v) := by
    intro n blk' v' h1 h2
    have q1 := get_append_one h1
    have q2 := get_append_one h2
    clear h1 h2
    rcases q1 with q1 | ⟨q1, e1⟩ <;> rcases q2 with q2 | ⟨q2, e2⟩
    · exact .inl ⟨q1, q2⟩
    · have := (List.getElem?_eq_some_iff.1 q1).1; have := h.len; omega
    · have := (List.getElem?_eq_some_iff.1 q2).1; have := h.len; omega
    · exact .inr ⟨q1, e1, e2⟩
  constructor
  · exact h.perm
  · exact h.fr
  · exact h.pf
  · simp [h.len]
  · intro u hu
    rcases List.mem_append.1 hu with hu | hu
    · exact h.one u hu
    · simp at hu; subst hu; exact hone
  · intro n blk' v' h1 h2
    rcases key n blk' v' h1 h2 with ⟨h1, h2⟩ | ⟨_, rfl, rfl⟩
    · exact (h.blk n blk' v' h1 h2).mono (PH.le.refl _) (PH.le.refl _) (HL.append _ _) fun b hb' => rfl
    · exact hb
  · intro n blk' v' b h1 hl h2 hi
    rcases key n blk' v' h1 h2 with ⟨h1, h2⟩ | ⟨_, rfl, rfl⟩
    · exact h.own n blk' v' b h1 hl h2 hi
    · exact ⟨(hid b hi).1, (hid b hi).2.1⟩
  · intro n m bn bm hn hm b h1 h2 l1 l2 g1 g2 i1 i2
    have q1 := key n bn hn h1 g1
    have q2 := key m bm hm h2 g2
    clear h1 h2 g1 g2
    rcases q1 with ⟨h1, g1⟩ | ⟨e1, rfl, rfl⟩ <;> rcases q2 with ⟨h2, g2⟩ | ⟨e2, rfl, rfl⟩
    · exact h.inj n m bn bm hn hm b h1 h2 l1 l2 g1 g2 i1 i2
    · exact absurd i1 ((hid b i2).2.2 n bn hn h1 l1 g1)
    · exact absurd i2 ((hid b i1).2.2 m bm hm h2 l2 g2)
    · omega
  · exact h.os
  · exact h.tape
  · exact h.output
  · exact h.gl

theorem rep_new {F Hp : PH} {hs : List Value} {M : List Blk} {v : Value} (hl : hs.length = M.length) : Rep F Hp (hs ++ [v]) (.own M.length) v := by
  refine .own _ _ ?_
  rw [List.getElem?_append_right (by rw [hl]; exact Nat.le_refl _), hl]; simp
theorem BlkAt.hl {F Hp : PH} {hs hs' : List Value} {w : World} {h : Value} {blk : Blk} (hh : HL hs hs') (hb : BlkAt F Hp hs w h blk) : BlkAt F Hp hs' w h blk := hb.mono (PH.le.refl _) (PH.le.refl _) hh fun _ _ => rfl

theorem evAppend_ok (hty : TyOk P ty) {t t' : TypeId} {s x : AV} {M : List Blk} {K : AV → List Blk → Prop} (h : evAppend ty t t' s x M K) : ∃ av M', K av M' ∧ ∀ (w0 : Base P) F Hp hs w us ux T, InvS w0 F Hp hs M w → Rep F Hp hs s us → Rep F Hp hs x ux →
    ∃ v ex w', (Builtin.append_ #[t, t'] T #[us, ux]).run P w = .ok v w' ∧ InvS w0 F Hp (hs ++ ex) M' w' ∧ Rep F Hp (hs ++ ex) av v := by
  unfold evAppend at h
  split at h
  · rename_i d htt hd
    have htt := beq_nat htt
    subst htt
    obtain ⟨ud, ti, row⟩ := hty t d hd
    split at h
    · rename_i e hk
      have hfit := row.fits
      rw [hk] at hfit
      have hfit : ud = .slice e := hfit
      subst hfit
      split at h
      · rename_i de hde
        obtain ⟨ue, ie, erow⟩ := hty e de hde
        split at h
        · rename_i n
          split at h
          · rename_i k xs hm
            split at h
            · rename_i ys hsz hrd
              have hsz := beq_nat hsz
              obtain ⟨hrc, ⟨b1, b2⟩, hK⟩ := rdG_ok h
              refine ⟨_, _, hK, fun w0 F Hp hs w us ux T hi hs' hx => ?_⟩
              cases hs' with
              | own _ _ hn =>
                obtain ⟨A, c, rfl, hrd⟩ := rdL_ok hi hrd hrc hx
                have hb := hi.blk n _ _ hm hn
                obtain ⟨v', w', hr, hone, ho, htp, hou, hb', hsize, hcase⟩ := append_run hi row erow hsz hb hrd b1 b2 T
                have hlen : hs.length = (M.set n Blk.dead).length := by rw [List.length_set]; exact hi.len
                refine ⟨v', [v'], w', hr, ?_, ?_⟩
                · rcases hcase with ⟨rfl, rfl⟩ | ⟨b, hib, ⟨rfl, hsame⟩ | ⟨hib2, hsame⟩⟩
                  · exact (hi.kill n).add2 _ _ rfl (fun b hb => by simp [idOf] at hb) (hb'.hl (HL.append _ _))
                  · exact (hi.kill n).add _ _ hsame ho htp hou hone (fun b hb => by rw [hib] at hb; cases hb; exact Nat.le_refl _) (hb'.hl (HL.append _ _))
                  · obtain ⟨o, hobj⟩ := hb'.id hib rfl
                    have ht : Turned w w' b o := ⟨hobj, hsame, ho, htp, hou⟩
                    have hi2 := hi.turn (new := .dead) hm rfl hn hib2 ht trivial
                    refine hi2.add2 _ _ hone (fun b' hb'' => ?_) (hb'.hl (HL.append _ _))
                    rw [hib] at hb''; cases hb''
                    obtain ⟨g1, g2⟩ := hi.own n _ _ b hm rfl hn hib2
                    refine ⟨g1, g2, fun m blk' h' q1 q2 q3 q4 => ?_⟩
                    by_cases e : m = n
                    · subst e
                      rw [List.getElem?_set_self (List.getElem?_eq_some_iff.1 hm).1] at q1
                      cases q1; cases q2
                    · rw [List.getElem?_set_ne (fun x => e x.symm)] at q1
                      exact e (hi.inj m n blk' _ h' _ b q1 hm q2 rfl q3 hn q4 hib2)
                · have := rep_new (F := F) (Hp := Hp) (v := v') hlen
                  rwa [List.length_set] at this
            · exact h.elim
          · exact h.elim
        · split at h
          · rename_i k hkd
            split at h
            · rename_i ys hsz hrd
              have hsz := beq_nat hsz
              obtain ⟨hrc, ⟨b1, b2⟩, hK⟩ := rdG_ok h
              refine ⟨_, _, hK, fun w0 F Hp hs w us ux T hi hs' hx => ?_⟩
              cases hs'.inv_val
              obtain ⟨A, c, rfl, hrd⟩ := rdL_ok hi hrd hrc hx
              have hb : BlkAt F Hp hs w (.slice none 0 0) (.arr k []) := ⟨none, 0, rfl, by simp, by simp [maxLen], fun _ => rfl, fun a ha => by cases ha⟩
              obtain ⟨v', w', hr, hone, ho, htp, hou, hb', hsize, hcase⟩ := append_run hi row erow hsz hb hrd (by simpa using b1) (by simpa using b2) T
              refine ⟨v', [v'], w', hr, ?_, rep_new hi.len⟩
              rw [List.nil_append] at hb'
              rcases hcase with ⟨rfl, rfl⟩ | ⟨b, hib, ⟨rfl, hsame⟩ | ⟨hib2, hsame⟩⟩
              · exact hi.add2 _ _ rfl (fun b hb => by simp [idOf] at hb) (hb'.hl (HL.append _ _))
              · exact hi.add _ _ hsame ho htp hou hone (fun b hb => by rw [hib] at hb; cases hb; exact Nat.le_refl _) (hb'.hl (HL.append _ _))
              · simp [idOf] at hib2
            · exact h.elim
          · exact h.elim
        · exact h.elim
      · exact h.elim
    · exact h.elim
  · exact h.elim
end Go.Sx
end
section
namespace Go.Sx
open Go
variable {P : Program} {ty : Ty}

/-! copy, make, literals -/
def evCopy (ty : Ty) (t : TypeId) (d s : AV) (M : List Blk) (K : AV → List Blk → Prop) : Prop :=
  match ty t with
  | some dd => match dd.k with
    | .slice e => match ty e with
      | some de => match d with
        | .es n sz i len _ => match M[n]? with
          | some (.arr k xs) => match Nat.beq de.size (ksz k), Nat.beq sz (ksz k), rdL M k s with
            | true, true, some ys => rdG M s ((i + len ≤ xs.length) ∧ K (.val (.int .i64 (min ys.length len))) (M.set n (.arr k (spl xs i (ys.take len)))))
            | _, _, _ => False
          | _ => False
        | .own n => match M[n]? with
          | some (.arr k xs) => match Nat.beq de.size (ksz k), rdL M k s with
            | true, some ys => rdG M s (K (.val (.int .i64 (min ys.length xs.length))) (M.set n (.arr k (spl xs 0 (ys.take xs.length)))))
            | _, _ => False
          | _ => False
        | _ => False
      | none => False
    | _ => False
  | none => False

theorem el_spl {cc news : List Value} {sz i m j : Nat} (hn : news.length = m * sz) (hfit : (i + m) * sz ≤ cc.length) :
    elCells (spl cc (i * sz) news) sz j = if j < i then elCells cc sz j else if j < i + m then elCells news sz (j - i) else elCells cc sz j := by
  have hm3 : (i + m) * sz = i * sz + m * sz := Nat.add_mul _ _ _
  have hfit' : i * sz + news.length ≤ cc.length := by rw [hn]; omega
  have l1 : ∀ (c : List Value) (j q : Nat), ¬ q < sz → (elCells c sz j)[q]? = none := fun c j q hq => by
    rw [List.getElem?_eq_none]; unfold elCells; rw [List.length_take]; omega
  apply List.ext_getElem?
  intro q
  by_cases hq : q < sz
  · rw [elCells_get hq, spl_get hfit']
    by_cases h1 : j < i
    · have hm : (j + 1) * sz ≤ i * sz := Nat.mul_le_mul_right _ h1
      rw [Nat.add_mul] at hm
      rw [if_pos h1, if_pos (by omega), elCells_get hq]
    · have hm : i * sz ≤ j * sz := Nat.mul_le_mul_right _ (by omega)
      rw [if_neg h1, if_neg (by omega)]
      by_cases h2 : j < i + m
      · have hm2 : (j + 1) * sz ≤ (i + m) * sz := Nat.mul_le_mul_right _ h2
        rw [Nat.add_mul j 1] at hm2
        rw [if_pos h2, if_pos (by rw [hn]; omega), elCells_get hq]
        congr 1
        rw [Nat.sub_mul]; omega
      · have hm2 : (i + m) * sz ≤ j * sz := Nat.mul_le_mul_right _ (by omega)
        rw [if_neg h2, if_neg (by rw [hn]; omega), elCells_get hq]
  · rw [l1 _ _ _ hq]
    split
    · rw [l1 _ _ _ hq]
    · split
      · rw [l1 _ _ _ hq]
      · rw [l1 _ _ _ hq]

/-- elements laid over others, in memory -/
theorem copy_run {w0 : Base P} {w : World} {F Hp : PH} {hs : List Value} {M : List Blk} (hi : InvS w0 F Hp hs M w) {t t' e : TypeId} {dd de : TD} {ti ie : TypeInfo} {ue : TypeDesc}
    (row : TyRow P t dd (.slice e) ti) (erow : TyRow P e de ue ie) {k : Kd} (hsz : de.size = ksz k) {xs ys : List (El k)} {n : Nat} {h : Value} {b lh ch : Nat} (hm : M[n]? = some (.arr k xs)) (hn : hs[n]? = some (.slice (some ⟨b, 0, none⟩) lh ch))
    {i len c : Nat} (hlen : i + len ≤ xs.length) (hA : 0 < len → h = .slice (some ⟨b, i * ksz k, none⟩) len c) (hA0 : len = 0 → ∃ a, h = .slice (some a) 0 c) {A : Option Addr} {cs : Nat} (hrd : RdW F Hp hs w k A ys) (T : TypeId) :
    ∃ w', (Builtin.copy_ #[t, t'] T #[h, .slice A ys.length cs]).run P w = .ok (.int .i64 (min ys.length len)) w' ∧ InvS w0 F Hp hs (M.set n (.arr k (spl xs i (ys.take len)))) w' := by
  have hk : 0 < ksz k := by cases k <;> simp [ksz]
  have hci : ((Nat.min ys.length len : Nat) : Int) = min (ys.length : Int) (len : Int) := by
    have : Nat.min ys.length len = min ys.length len := rfl
    omega
  have hes : ∀ w, (sizeOf e).run P w = .ok (ksz k) w := fun w => by rw [erow.run_size, hsz]
  -- what is laid over
  have hrd2 : RdW F Hp hs w k A (ys.take len) := fun j x hx => by
    rw [List.getElem?_take] at hx
    split at hx
    · exact hrd j x hx
    · cases hx
  obtain ⟨news, n1, n2, n3⟩ := hrd2.gather
  have hone := one_of_el hi n1 n3
  have hmin : (ys.take len).length = min ys.length len := by rw [List.length_take, Nat.min_comm]
  rw [hmin] at n1
  obtain ⟨A', cap, e1, q1, q2, q3, q4⟩ := hi.blk n _ _ hm hn
  cases e1
  obtain ⟨b', TT, cc, e2, g1, g2, g3⟩ := q4 _ rfl
  cases e2
  have hself : M.set n (.arr k (spl xs i [])) = M := by
    have : spl xs i ([] : List (El k)) = xs := by simp [spl]
    rw [this]
    apply List.ext_getElem?
    intro j
    rw [List.getElem?_set]
    split
    · rename_i e; subst e
      rw [if_pos (List.getElem?_eq_some_iff.1 hm).1, hm]
    · rfl
  by_cases h0 : min ys.length len = 0
  · have hnil : ys.take len = [] := List.eq_nil_of_length_eq_zero (by rw [hmin]; exact h0)
    refine ⟨w, ?_, ?_⟩
    · have hload : ∀ (x : Addr), (loadCells x 0).run P w = .ok #[] w := fun x => by simpa using run_loadCells_list (P := P) (w := w) x [] (by simp)
      have hh : ∃ a, h = .slice (some a) len c := by
        by_cases hl : 0 < len
        · exact ⟨_, hA hl⟩
        · have : len = 0 := by omega
          subst this; exact hA0 rfl
      obtain ⟨a, rfl⟩ := hh
      have h0' : Nat.min ys.length len = 0 := h0
      cases A <;> simp [Builtin.copy_, row.run_und, Builtin.lenOf, Builtin.firstCells, hes, h0', storeCells, hload, goInt] <;> omega
    · rw [hnil, hself]; exact hi
  · have hl : 0 < len := by omega
    have hh := hA hl
    subst hh
    cases A with
    | none =>
      exfalso
      have hne : news ≠ [] := by
        intro e
        have : 0 < news.length := by rw [n1]; exact Nat.mul_pos (by omega) hk
        rw [e] at this; simp at this
      obtain ⟨u, us, hu⟩ := List.exists_cons_of_ne_nil hne
      obtain ⟨a, ha, _⟩ := n2 0 u (by rw [hu]; rfl)
      cases ha
    | some a =>
      have hcells : ∀ j u, news[j]? = some u → w.cell? (a.add j) = some u := by
        intro j u hu
        obtain ⟨a', e, g⟩ := n2 j u hu
        cases e; exact g
      have hf := run_firstCells_some (P := P) w (ksz k) (min ys.length len) a ys.length cs news n1 hcells
      have hmul : (i + min ys.length len) * ksz k ≤ ch * ksz k := Nat.mul_le_mul_right _ (by omega)
      have hfit : (i + min ys.length len) * ksz k ≤ cc.length := by rw [g2]; exact hmul
      have hfit2 : i * ksz k + news.length ≤ cc.length := by rw [n1]; rw [Nat.add_mul] at hfit; exact hfit
      have hst := run_storeCells_at P b (i * ksz k) TT news 0 cc.toArray w g1 (by simpa using hfit2) hone
      simp only [Nat.add_zero] at hst
      refine ⟨w.setRow b (spl cc (i * ksz k) news).toArray, ?_, ?_⟩
      · have hf' : (Builtin.firstCells (ksz k) (Nat.min ys.length len) (.slice (some a) ys.length cs)).run P w = .ok news.toArray w := hf
        simp only [Builtin.copy_, List.getElem?_toArray, List.getElem?_cons_zero, List.getElem?_cons_succ, Sem.run_bind, row.run_und, Builtin.lenOf, Sem.run_pure, Result.andThen_ok, hes, hf', hst, goInt, hci, spl]
      · refine hi.turn hm rfl hn rfl (Turned.setRow g1) ?_
        have hsl : (spl xs i (ys.take len)).length = xs.length := spl_len (by rw [hmin]; omega)
        refine ⟨some ⟨b, 0, none⟩, ch, by rw [hsl], by rw [hsl]; exact q1, q2, (fun e => by cases e), fun a ha => ?_⟩
        cases ha
        refine ⟨b, TT, _, rfl, (Turned.setRow g1).at_, by rw [spl_len hfit2, g2], fun j y hy => ?_⟩
        rw [el_spl n1 hfit]
        rw [spl_get (by rw [hmin]; omega), hmin] at hy
        by_cases h1 : j < i
        · rw [if_pos h1] at hy ⊢; exact g3 j y hy
        · rw [if_neg h1] at hy ⊢
          by_cases h2 : j < i + min ys.length len
          · rw [if_pos h2] at hy ⊢; exact n3 _ y hy
          · rw [if_neg h2] at hy ⊢; exact g3 j y hy

theorem evCopy_ok (hty : TyOk P ty) {t : TypeId} {d s : AV} {M : List Blk} {K : AV → List Blk → Prop} (h : evCopy ty t d s M K) : ∃ av M', K av M' ∧ ∀ (w0 : Base P) F Hp hs w ud us t' T, InvS w0 F Hp hs M w → Rep F Hp hs d ud → Rep F Hp hs s us →
    ∃ v w', (Builtin.copy_ #[t, t'] T #[ud, us]).run P w = .ok v w' ∧ InvS w0 F Hp hs M' w' ∧ Rep F Hp hs av v := by
  unfold evCopy at h
  split at h
  · rename_i dd hd
    obtain ⟨udd, ti, row⟩ := hty t dd hd
    split at h
    · rename_i e hk
      have hfit := row.fits
      rw [hk] at hfit
      have hfit : udd = .slice e := hfit
      subst hfit
      split at h
      · rename_i de hde
        obtain ⟨ue, ie, erow⟩ := hty e de hde
        split at h
        · rename_i n sz i len cap
          split at h
          · rename_i k xs hm
            split at h
            · rename_i ys hsz hsz2 hrd
              have hsz := beq_nat hsz
              have hsz2 := beq_nat hsz2
              obtain ⟨hrc, hle, hK⟩ := rdG_ok h
              refine ⟨_, _, hK, fun w0 F Hp hs w ud us t' T hi hd' hs' => ?_⟩
              obtain ⟨A, c, rfl, hrd⟩ := rdL_ok hi hrd hrc hs'
              cases hd' with
              | es _ _ _ _ _ b l cc A' c' hn hlc hc hA hA0 =>
                obtain ⟨w', h1, h2⟩ := copy_run hi row erow hsz hm hn hle (h := .slice A' len c') (c := c') (fun hp => by rw [hA (by omega), hsz2]) (fun e => by
                  cases A' with
                  | none => exact absurd rfl hA0
                  | some a => exact ⟨a, by rw [e]⟩) hrd T (t' := t')
                exact ⟨_, w', h1, h2, .val _⟩
            · exact h.elim
          · exact h.elim
        · rename_i n
          split at h
          · rename_i k xs hm
            split at h
            · rename_i ys hsz hrd
              have hsz := beq_nat hsz
              obtain ⟨hrc, h⟩ := rdG_ok h
              refine ⟨_, _, h, fun w0 F Hp hs w ud us t' T hi hd' hs' => ?_⟩
              obtain ⟨A, c, rfl, hrd⟩ := rdL_ok hi hrd hrc hs'
              cases hd' with
              | own _ _ hn =>
                obtain ⟨A', cap, rfl, q1, q2, q3, q4⟩ := hi.blk n _ _ hm hn
                cases A' with
                | none =>
                  have h0 := q3 rfl
                  have hx : xs = [] := List.eq_nil_of_length_eq_zero (by omega)
                  subst hx
                  refine ⟨_, w, ?_, ?_, .val _⟩
                  · have hload : ∀ (x : Addr), (loadCells x 0).run P w = .ok #[] w := fun x => by simpa using run_loadCells_list (P := P) (w := w) x [] (by simp)
                    have h0' : Nat.min ys.length 0 = 0 := Nat.min_zero _
                    cases A <;> simp [Builtin.copy_, row.run_und, Builtin.lenOf, Builtin.firstCells, erow.run_size, h0', hload, goInt] <;> omega
                  · have : M.set n (.arr k (spl [] 0 (ys.take ([] : List (El k)).length))) = M := by
                      have e : spl ([] : List (El k)) 0 (ys.take ([] : List (El k)).length) = [] := by simp [spl]
                      rw [e]
                      apply List.ext_getElem?
                      intro j
                      rw [List.getElem?_set]
                      split
                      · rename_i e; subst e
                        rw [if_pos (List.getElem?_eq_some_iff.1 hm).1, hm]
                      · rfl
                    rw [this]; exact hi
                | some a =>
                  obtain ⟨b, TT, cc, rfl, g1, g2, g3⟩ := q4 a rfl
                  obtain ⟨w', h1, h2⟩ := copy_run hi row erow hsz hm hn (i := 0) (len := xs.length) (by omega) (h := .slice (some ⟨b, 0, none⟩) xs.length cap) (c := cap) (fun hp => by rw [Nat.zero_mul]) (fun e => ⟨⟨b, 0, none⟩, by rw [e]⟩) hrd T (t' := t')
                  exact ⟨_, w', h1, h2, .val _⟩
            · exact h.elim
          · exact h.elim
        · exact h.elim
      · exact h.elim
    · exact h.elim
  · exact h.elim
end Go.Sx
end
section
namespace Go.Sx
open Go
variable {P : Program} {ty : Ty}

def intVal : AV → Option Int
  | .val (.int _ n) => some n
  | _ => none
def evMake (ty : Ty) (t : TypeId) (l c : AV) (M : List Blk) (K : AV → List Blk → Prop) : Prop :=
  match ty t, intVal l, intVal c with
  | some d, some n, some m => match d.k with
    | .slice e => match ty e with
      | some de => match de.kd with
        | some k => match Nat.beq de.size (ksz k), dec k (de.zero.map .val) with
          | true, some z => (0 ≤ n ∧ n ≤ m ∧ m ≤ 1099511627776 ∧ m * de.bytes ≤ 140737488355328) ∧ K (.own M.length) (M ++ [.arr k (List.replicate n.toNat z)])
          | _, _ => False
        | none => False
      | none => False
    | _ => False
  | _, _, _ => False
theorem intVal_ok {F Hp : PH} {hs : List Value} {x : AV} {n : Int} {v : Value} (h : intVal x = some n) (hr : Rep F Hp hs x v) : ∃ k, v = .int k n := by
  unfold intVal at h
  split at h
  · cases h; exact ⟨_, hr.inv_val⟩
  · cases h
theorem made_get (z : Array Value) (n j : Nat) (hj : j < n) (hz : 0 < z.size) : (madeCells z n).toList[j]? = z.toList[j % z.size]? := by
  have hlt := Nat.mod_lt j hz
  rw [Array.getElem?_toList, Array.getElem?_toList]
  simp [madeCells, hj, hlt]
theorem evMake_ok (hty : TyOk P ty) {t : TypeId} {l c : AV} {M : List Blk} {K : AV → List Blk → Prop} (h : evMake ty t l c M K) : ∃ av M', K av M' ∧ ∀ (w0 : Base P) F Hp hs w ul uc, InvS w0 F Hp hs M w → Rep F Hp hs l ul → Rep F Hp hs c uc →
    ∃ v ex w', (Instr.makeSlice t ul uc).run P w = .ok v w' ∧ InvS w0 F Hp (hs ++ ex) M' w' ∧ Rep F Hp (hs ++ ex) av v := by
  unfold evMake at h
  split at h
  · rename_i d n m hd hn hm
    obtain ⟨ud, ti, row⟩ := hty t d hd
    split at h
    · rename_i e hk
      have hfit := row.fits
      rw [hk] at hfit
      have hfit : ud = .slice e := hfit
      subst hfit
      split at h
      · rename_i de hde
        obtain ⟨ue, ie, erow⟩ := hty e de hde
        split at h
        · rename_i k hkd
          split at h
          · rename_i z hsz hz
            have hsz := beq_nat hsz
            obtain ⟨⟨b0, b1, b2, b3⟩, hK⟩ := h
            refine ⟨_, _, hK, fun w0 F Hp hs w ul uc hi hl hc => ?_⟩
            obtain ⟨kl, rfl⟩ := intVal_ok hn hl
            obtain ⟨kc, rfl⟩ := intVal_ok hm hc
            obtain ⟨zv, hz1, hz2⟩ := erow.zero
            have hk0 : 0 < ksz k := by cases k <;> simp [ksz]
            have hzs : zv.cells.size = ksz k := by rw [← hsz, ← erow.zlen, ← hz2]; simp
            have hr := run_make (P := P) w t e ie zv row.und erow.info hz1 kl kc n m b0 b1 (by rw [erow.bytes, Int.mul_comm]; omega) (by omega)
            have hies : ie.size = ksz k := by rw [erow.size, hsz]
            refine ⟨_, [.slice (some ⟨w.heap.size, 0, none⟩) n.toNat m.toNat], _, hr, ?_, rep_new hi.len⟩
            refine hi.add _ _ (fun q hq => heap_alloc_ne w _ (by omega)) rfl rfl rfl rfl (fun b hb => by simp [idOf] at hb; omega) ?_
            refine ⟨some ⟨w.heap.size, 0, none⟩, m.toNat, by simp, by simp; omega, by simp only [maxLen]; omega, (fun e => by cases e), fun a ha => ?_⟩
            cases ha
            refine ⟨w.heap.size, e, (madeCells zv.cells (m.toNat * ie.size)).toList, rfl, by rw [heap_alloc_at], by rw [Array.length_toList, size_madeCells, hies], fun i x hx => ?_⟩
            have hil : i < n.toNat := by
              have := (List.getElem?_eq_some_iff.1 hx).1; simpa using this
            have hxz : x = z := by
              rw [List.getElem?_replicate, if_pos hil] at hx; exact (Option.some.inj hx).symm
            subst hxz
            have hzr : Reps F Hp (hs ++ [Value.slice (some ⟨w.heap.size, 0, none⟩) n.toNat m.toNat]) (de.zero.map AV.val) de.zero := reps_vals _
            have := dec_ok hz hzr
            have e : elCells (madeCells zv.cells (m.toNat * ie.size)).toList (ksz k) i = de.zero := by
              have hmul : (i + 1) * ksz k ≤ m.toNat * ksz k := Nat.mul_le_mul_right _ (by omega)
              rw [Nat.add_mul] at hmul
              apply List.ext_getElem?
              intro q
              by_cases hq : q < ksz k
              · rw [elCells_get hq, made_get _ _ _ (by rw [hies]; omega) (by omega), hz2, hzs]
                congr 1
                rw [Nat.mul_comm, Nat.mul_add_mod, Nat.mod_eq_of_lt hq]
              · rw [List.getElem?_eq_none (by unfold elCells; rw [List.length_take]; omega), List.getElem?_eq_none (by rw [erow.zlen]; omega)]
            rw [e]; exact this
          · exact h.elim
        · exact h.elim
      · exact h.elim
    · exact h.elim
  · exact h.elim

/-! literals -/
def fillS (sz : Nat) : List AV → List (Nat × AV) → Option (List AV)
  | l, [] => some l
  | l, (i, x) :: r => match Nat.beq x.cells.length sz, Nat.ble (i * sz + sz) l.length, Nat.ble 1 sz with
    | true, true, true => fillS sz (putL (i * sz) x.cells l) r
    | _, _, _ => none
def decAll (k : Kd) : Nat → List AV → Option (List (El k))
  | 0, _ => some []
  | n + 1, l => match dec k (l.take (ksz k)), decAll k n (l.drop (ksz k)) with
    | some y, some ys => some (y :: ys)
    | _, _ => none
def repl : Nat → List AV → List AV
  | 0, _ => []
  | n + 1, l => l ++ repl n l
def litOf (ty : Ty) (t : TypeId) (len : Nat) (parts : List (Nat × AV)) : Option ((k : Kd) × List (El k)) :=
  match ty t with
  | some d => match d.k with
    | .slice e => match ty e with
      | some de => match de.kd with
        | some k => match Nat.beq de.size (ksz k), Nat.ble (len * de.size) 100000, fillS de.size (repl len (de.zero.map .val)) parts with
          | true, true, some l => match decAll k len l with
            | some ys => some ⟨k, ys⟩
            | none => none
          | _, _, _ => none
        | none => none
      | none => none
    | _ => none
  | none => none
theorem fillS_ok {w0 : Base P} {w : World} {F Hp : PH} {hs : List Value} {M : List Blk} (hi : InvS w0 F Hp hs M w) {sz : Nat} (ρ : Operand → AV) (ev : Operand → Value) (hr : ∀ x, Rep F Hp hs (ρ x) (ev x)) :
    ∀ (parts : List (Nat × Operand)) (l : List AV) (vs : List Value) (cs : List AV), Reps F Hp hs l vs → fillS sz l (parts.map fun p => (p.1, ρ p.2)) = some cs →
      ∃ us, Instr.fill (fun i => some (i * sz, sz)) vs.toArray (parts.map fun p => (p.1, ev p.2)) = some us.toArray ∧ Reps F Hp hs cs us ∧ us.length = vs.length := by
  intro parts
  induction parts with
  | nil => intro l vs cs hl h; simp [fillS] at h; subst h; exact ⟨vs, by simp [Instr.fill], hl, rfl⟩
  | cons p parts ih =>
    intro l vs cs hl h
    obtain ⟨i, x⟩ := p
    simp only [List.map_cons, fillS] at h
    split at h
    · rename_i e1 e2 e3
      have e1 := beq_nat e1
      have e2 := Nat.le_of_ble_eq_true e2
      have e3 := Nat.le_of_ble_eq_true e3
      have hne : (ρ x).cells ≠ [] := by
        intro e
        rw [e] at e1
        simp at e1; omega
      have hc := cells_ok hi (hr x) hne
      have hlen : (ev x).cells.size = sz := by rw [← e1, hc.length]; simp
      have hll := hl.length
      simp only [List.map_cons, Instr.fill, hlen]
      rw [if_neg (by simp; omega)]
      have hput := putL_ok (ρ x).cells (ev x).cells.toList (i * sz) l vs hc hl
      obtain ⟨us, h1, h2, h3⟩ := ih _ _ cs hput h
      refine ⟨us, ?_, h2, ?_⟩
      · rw [← h1]
        congr 1
        have := zipIdx_shift (ev x).cells.toList (i * sz) 0 vs.toArray
        rw [Nat.add_zero] at this
        rw [← this]
        rw [← Array.foldl_toList, Array.toList_zipIdx]
      · rw [h3, ← hput.length, putL_get _ _ _ (by omega), spl_len (by omega), hll]
    · cases h
theorem decAll_ok {F Hp : PH} {hs : List Value} {k : Kd} : ∀ (n : Nat) (l : List AV) (ys : List (El k)) (vs : List Value), decAll k n l = some ys → Reps F Hp hs l vs →
    ys.length = n ∧ ∀ i y, ys[i]? = some y → Reps F Hp hs (enc k y) (elCells vs (ksz k) i) := by
  intro n
  induction n with
  | zero => intro l ys vs h hr; simp [decAll] at h; subst h; exact ⟨rfl, fun i y hy => by simp at hy⟩
  | succ n ih =>
    intro l ys vs h hr
    simp only [decAll] at h
    split at h
    · rename_i y ys' h1 h2
      cases h
      obtain ⟨g1, g2⟩ := ih _ _ _ h2 (hr.drop (ksz k))
      refine ⟨by simp [g1], fun i x hx => ?_⟩
      cases i with
      | zero =>
        simp at hx; subst hx
        have := dec_ok h1 (hr.take (ksz k))
        simpa [elCells] using this
      | succ i =>
        have := g2 i x (by simpa using hx)
        have e : elCells (vs.drop (ksz k)) (ksz k) i = elCells vs (ksz k) (i + 1) := by
          unfold elCells
          rw [List.drop_drop, Nat.add_mul]
          congr 2; omega
        rw [← e]; exact this
    · cases h
theorem repl_vals {F Hp : PH} {hs : List Value} (z : List Value) : ∀ n, Reps F Hp hs (repl n (z.map AV.val)) ((List.replicate n z).flatten) := by
  intro n
  induction n with
  | zero => exact .nil
  | succ n ih => rw [List.replicate_succ, List.flatten_cons]; exact (reps_vals z).append ih
theorem flat_rep_get {α} (z : List α) : ∀ (n j : Nat), j < n * z.length → ((List.replicate n z).flatten)[j]? = z[j % z.length]? := by
  intro n
  induction n with
  | zero => intro j h; simp at h
  | succ n ih =>
    intro j h
    rw [List.replicate_succ, List.flatten_cons]
    by_cases hj : j < z.length
    · rw [List.getElem?_append_left hj, Nat.mod_eq_of_lt hj]
    · rw [List.getElem?_append_right (by omega), ih _ (by rw [Nat.add_mul] at h; omega)]
      congr 1
      conv => rhs; rw [show j = (j - z.length) + z.length by omega]
      rw [Nat.add_mod_right]
theorem lit_ok (hty : TyOk P ty) {t : TypeId} {len : Nat} {parts : Array (Nat × Operand)} {ρ : Operand → AV} {k : Kd} {ys : List (El k)} (h : litOf ty t len (parts.toList.map fun p => (p.1, ρ p.2)) = some ⟨k, ys⟩) {w0 : Base P} {w : World} {F Hp : PH} {hs : List Value} {M : List Blk}
    (hi : InvS w0 F Hp hs M w) {ev : Operand → Value} (hr : ∀ x, Rep F Hp hs (ρ x) (ev x)) :
    ∃ (e : TypeId) (c : List Value), (Instr.buildSlice t len (parts.map fun p => (p.1, ev p.2))).run P w = .ok (.slice (some ⟨w.heap.size, 0, none⟩) len len) (w.alloc (.cells c.toArray e)) ∧ ys.length = len ∧ len ≤ 100000 ∧ c.length = len * ksz k ∧
      ∀ i y, ys[i]? = some y → Reps F Hp hs (enc k y) (elCells c (ksz k) i) := by
  unfold litOf at h
  split at h
  · rename_i d hd
    obtain ⟨ud, ti, row⟩ := hty t d hd
    split at h
    · rename_i e hk
      have hfit := row.fits
      rw [hk] at hfit
      have hfit : ud = .slice e := hfit
      subst hfit
      split at h
      · rename_i de hde
        obtain ⟨ue, ie, erow⟩ := hty e de hde
        split at h
        · rename_i k' hkd
          split at h
          · rename_i l hsz hle hfill
            have hsz := beq_nat hsz
            have hle := Nat.le_of_ble_eq_true hle
            split at h
            · rename_i ys' hdec
              cases h
              have hk0 : 0 < ksz k := by cases k <;> simp [ksz]
              obtain ⟨zv, hz1, hz2⟩ := erow.zero
              have hzs : zv.cells.size = de.size := by rw [← erow.zlen, ← hz2]; simp
              obtain ⟨us, f1, f2, f3⟩ := fillS_ok hi ρ ev hr parts.toList _ _ l (repl_vals de.zero len) hfill
              obtain ⟨g1, g2⟩ := decAll_ok len l ys us hdec f2
              have hlenz : ((List.replicate len de.zero).flatten).length = len * de.size := by
                rw [List.length_flatten, List.map_replicate, List.sum_replicate_nat, erow.zlen]
              have hl1 : len ≤ 100000 := by
                rw [hsz] at hle
                have : len * 1 ≤ len * ksz k := Nat.mul_le_mul_left _ hk0
                omega
              refine ⟨e, us, ?_, g1, hl1, by rw [f3, hlenz, hsz], g2⟩
              have hnot : ¬ len * ie.size > 2 ^ 24 := by rw [erow.size]; omega
              have hcells : (Array.range (len * ie.size)).map (zv.cells[· % zv.cells.size]!) = (List.replicate len de.zero).flatten.toArray := by
                apply Array.ext'
                apply List.ext_getElem?
                intro j
                rw [erow.size]
                by_cases hj : j < len * de.size
                · have := made_get zv.cells (len * de.size) j hj (by rw [hzs, hsz]; exact hk0)
                  have hm : (madeCells zv.cells (len * de.size)) = (Array.range (len * de.size)).map (fun j => zv.cells[j % zv.cells.size]!) := rfl
                  rw [← hm, this, hz2, hzs]
                  show _ = ((List.replicate len de.zero).flatten)[j]?
                  rw [flat_rep_get de.zero len j (by rw [erow.zlen]; exact hj), erow.zlen]
                · rw [List.getElem?_eq_none (by simp; omega), List.getElem?_eq_none (by show ((List.replicate len de.zero).flatten).length ≤ _; rw [hlenz]; omega)]
              have hparts : (parts.map fun p => (p.1, ev p.2)).toList = parts.toList.map fun p => (p.1, ev p.2) := by simp
              have hies := erow.size
              by_cases h0 : len * ie.size = 0
              · have hl0 : len = 0 := by
                  rcases Nat.mul_eq_zero.1 h0 with h | h
                  · exact h
                  · omega
                subst hl0
                have f1' : Instr.fill (fun i => some (i * de.size, de.size)) #[] (parts.toList.map fun p => (p.1, ev p.2)) = some us.toArray := by simpa using f1
                unfold Instr.buildSlice
                have hp0 : parts = #[] := by
                  apply Array.ext'
                  cases hpl : parts.toList with
                  | nil => rfl
                  | cons p r =>
                    rw [hpl] at hfill
                    simp only [List.map_cons, fillS, repl, List.length_nil] at hfill
                    split at hfill
                    · rename_i e2 e3
                      have e2 := Nat.le_of_ble_eq_true e2
                      have e3 := Nat.le_of_ble_eq_true e3
                      omega
                    · cases hfill
                subst hp0
                simp [Instr.fill] at f1'
                subst f1'
                simp [row.run_und, erow.run_size, newRow, Instr.fill]
                exact congrArg (fun c => w.alloc (.cells c e)) (by simp [← Array.toList_inj])
              · refine run_buildSlice w t e len _ us.toArray ie zv row.und erow.info hz1 hnot h0 ?_
                rw [hcells, hparts, hies]; exact f1
            · cases h
          · cases h
        · cases h
      · cases h
    · cases h
  · cases h
def evLit (ty : Ty) (t : TypeId) (len : Nat) (parts : List (Nat × AV)) (M : List Blk) (K : AV → List Blk → Prop) : Prop :=
  match litOf ty t len parts with
  | some ⟨k, ys⟩ => K (.own M.length) (M ++ [.arr k ys])
  | none => False
theorem evLit_ok (hty : TyOk P ty) {t : TypeId} {len : Nat} {parts : Array (Nat × Operand)} {ρ : Operand → AV} {M : List Blk} {K : AV → List Blk → Prop} (h : evLit ty t len (parts.toList.map fun p => (p.1, ρ p.2)) M K) :
    ∃ av M', K av M' ∧ ∀ (w0 : Base P) F Hp hs w (ev : Operand → Value), InvS w0 F Hp hs M w → (∀ x, Rep F Hp hs (ρ x) (ev x)) →
    ∃ v ex w', (Instr.buildSlice t len (parts.map fun p => (p.1, ev p.2))).run P w = .ok v w' ∧ InvS w0 F Hp (hs ++ ex) M' w' ∧ Rep F Hp (hs ++ ex) av v := by
  unfold evLit at h
  split at h
  · rename_i k ys hlit
    refine ⟨_, _, h, fun w0 F Hp hs w ev hi hr => ?_⟩
    obtain ⟨e, c, h1, h2, h3, h4, h5⟩ := lit_ok hty hlit hi hr
    refine ⟨_, [.slice (some ⟨w.heap.size, 0, none⟩) len len], _, h1, ?_, rep_new hi.len⟩
    refine hi.add _ _ (fun q hq => heap_alloc_ne w _ (by omega)) rfl rfl rfl rfl (fun b hb => by simp [idOf] at hb; omega) ?_
    refine ⟨some ⟨w.heap.size, 0, none⟩, len, by rw [h2], by rw [h2]; exact Nat.le_refl _, by simp only [maxLen]; omega, (fun e => by cases e), fun a ha => ?_⟩
    cases ha
    exact ⟨w.heap.size, e, c, rfl, heap_alloc_at w _, h4, fun i y hy => Reps.mono (PH.le.refl _) (PH.le.refl _) (HL.append _ _) (h5 i y hy)⟩
  · exact h.elim
/-- the same, kept ags it is built -/
def evLitI (ty : Ty) (t : TypeId) (len : Nat) (parts : List (Nat × AV)) (K : AV → Prop) : Prop :=
  match litOf ty t len parts with
  | some ⟨k, ys⟩ => K (.sl k ys)
  | none => False
/-- a block that stays tells a kept slice -/
theorem sl_of {F Hp : PH} {hs : List Value} {k : Kd} {xs : List (El k)} {cap b : Nat} {T : TypeId} {c : List Value} (h1 : xs.length ≤ cap) (h2 : cap ≤ maxLen) (hp : Hp b = some (.cells c.toArray T (0, 0)))
    (hc : ∀ i x, xs[i]? = some x → Reps F Hp hs (enc k x) (elCells c (ksz k) i)) : Rep F Hp hs (.sl k xs) (.slice (some ⟨b, 0, none⟩) xs.length cap) := by
  refine .sl k xs _ cap (fun i => elCells c (ksz k) i) h1 h2 (fun e => by cases e) hc (fun i x j u hx hu => ⟨_, rfl, ?_⟩)
  have hj := elCells_len hu
  rw [elCells_get hj] at hu
  rw [Addr.add_lit]
  simp only [cellAt, hp]
  simpa using hu
theorem sl_new {F Hp Hp' : PH} {hs : List Value} {b : Nat} {e : TypeId} {c : List Value} {k : Kd} {ys : List (El k)} {len : Nat} (hle : Hp.le Hp') (hp : Hp' b = some (.cells c.toArray e)) (h2 : ys.length = len) (h3 : len ≤ 100000)
    (h5 : ∀ i y, ys[i]? = some y → Reps F Hp hs (enc k y) (elCells c (ksz k) i)) :
    Rep F Hp' hs (.sl k ys) (.slice (some ⟨b, 0, none⟩) len len) := by
  subst h2
  exact sl_of (Nat.le_refl _) (by simp only [maxLen]; omega) hp (fun i x hx => Reps.mono (PH.le.refl _) hle (HL.refl _) (h5 i x hx))
theorem evLitI_ok (hty : TyOk P ty) {t : TypeId} {len : Nat} {parts : Array (Nat × Operand)} {ρ : Operand → AV} {M : List Blk} {K : AV → Prop} (h : evLitI ty t len (parts.toList.map fun p => (p.1, ρ p.2)) K) :
    ∃ av, K av ∧ ∀ (w0 : Base P) F Hp hs w (ev : Operand → Value), InvS w0 F Hp hs M w → (∀ x, Rep F Hp hs (ρ x) (ev x)) →
    ∃ v Hp' w', (Instr.buildSlice t len (parts.map fun p => (p.1, ev p.2))).run P w = .ok v w' ∧ Hp.le Hp' ∧ InvS w0 F Hp' hs M w' ∧ Rep F Hp' hs av v := by
  unfold evLitI at h
  split at h
  · rename_i k ys hlit
    refine ⟨_, h, fun w0 F Hp hs w ev hi hr => ?_⟩
    obtain ⟨e, c, h1, h2, h3, h4, h5⟩ := lit_ok hty hlit hi hr
    obtain ⟨g1, g2⟩ := hi.alloc_im (.cells c.toArray e)
    exact ⟨_, _, _, h1, g2, g1, sl_new g2 (PH.put_at _ _ _) h2 h3 h5⟩
  · exact h.elim
theorem evLitI_okX (hty : TyOk P ty) {t : TypeId} {len : Nat} {parts : Array (Nat × Operand)} {ρ : Operand → AV} {K : AV → Prop} (h : evLitI ty t len (parts.toList.map fun p => (p.1, ρ p.2)) K) :
    ∃ av, K av ∧ (∃ k xs, av = .sl k xs) ∧ ∀ (w0 : Base P) F Hp hs M w (ev : Operand → Value), InvS w0 F Hp hs M w → (∀ x, Rep F Hp hs (ρ x) (ev x)) →
    ∃ v Hp' w', (Instr.buildSlice t len (parts.map fun p => (p.1, ev p.2))).run P w = .ok v w' ∧ Hp.le Hp' ∧ (∀ hs M, InvS w0 F Hp hs M w → InvS w0 F Hp' hs M w') ∧ Rep F Hp' hs av v := by
  unfold evLitI at h
  split at h
  · rename_i k ys hlit
    refine ⟨_, h, ⟨_, _, rfl⟩, fun w0 F Hp hs M w ev hi hr => ?_⟩
    obtain ⟨e, c, h1, h2, h3, h4, h5⟩ := lit_ok hty hlit hi hr
    obtain ⟨g1, g2⟩ := hi.alloc_im (.cells c.toArray e)
    exact ⟨_, _, _, h1, g2, fun hs M hi2 => (hi2.alloc_im (.cells c.toArray e)).1, sl_new g2 (PH.put_at _ _ _) h2 h3 h5⟩
  · exact h.elim
end Go.Sx
end
section
namespace Go.Sx
open Go
variable {P : Program} {ty : Ty}

/-! what is made, and kept ags it is made; iterators; interfaces -/
theorem InvS.new_im {w0 : Base P} {w w' : World} {F Hp : PH} {hs : List Value} {M : List Blk} (h : InvS w0 F Hp hs M w) (o : Obj) (hlow : ∀ k : Nat, k < w.heap.size → w'.heap[k]? = w.heap[k]?) (hat : w'.heap[w.heap.size]? = some o)
    (hos : w'.os = w.os) (htape : w'.tape = w.tape) (hout : w'.output = w.output) : InvS w0 F (Hp.put w.heap.size o) hs M w' ∧ Hp.le (Hp.put w.heap.size o) := by
  obtain ⟨hi, hle⟩ := h.alloc_im o
  refine ⟨⟨?_, ?_, hi.pf, hi.len, hi.one, ?_, hi.own, hi.inj, hos.trans h.os, htape.trans h.tape, hout.trans h.output, hi.gl⟩, hle⟩
  · intro b x hx
    unfold PH.put at hx
    split at hx
    · rename_i e; subst e; cases hx; exact hat
    · rw [hlow b (h.perm_lt hx)]; exact h.perm b x hx
  · intro b x hx
    rw [hlow b (h.fr_lt hx)]; exact h.fr b x hx
  · intro n blk v hm hh
    by_cases hl : blk.live = true
    · exact (h.blk n blk v hm hh).mono (PH.le.refl _) hle (HL.refl _) fun b hb => hlow b (h.id_lt hm hl hh hb)
    · cases blk <;> simp [Blk.live] at hl
      trivial

/-- a string's bytes, ags numbers -/
def bytesL (s : ByteArray) : List Int := s.data.toList.map fun b => (b.toNat : Int)
theorem bytesL_len (s : ByteArray) : (bytesL s).length = s.size := by simp [bytesL]
def evS2B (ty : Ty) (src dst : TypeId) (x : AV) (K : AV → Prop) : Prop :=
  match ty src, ty dst, x with
  | some _, some dd, .val (.string s) => match dd.k with
    | .slice e => match ty e with
      | some de => match de.k with
        | .int .u8 => s.size ≤ 4611686018427387904 ∧ K (.sl (.int .u8) (bytesL s))
        | _ => False
      | none => False
    | _ => False
  | _, _, _ => False
theorem evS2B_ok (hty : TyOk P ty) {src dst : TypeId} {x : AV} {K : AV → Prop} (h : evS2B ty src dst x K) : ∃ av, K av ∧ ∀ (w0 : Base P) F Hp hs M w u, InvS w0 F Hp hs M w → Rep F Hp hs x u →
    ∃ v Hp' w', (convert src dst u).run P w = .ok v w' ∧ Hp.le Hp' ∧ InvS w0 F Hp' hs M w' ∧ Rep F Hp' hs av v := by
  unfold evS2B at h
  split at h
  · rename_i ds dd s hs' hd
    obtain ⟨us, ti, row⟩ := hty src ds hs'
    obtain ⟨ud, tj, drow⟩ := hty dst dd hd
    split at h
    · rename_i e hk
      have hfit := drow.fits
      rw [hk] at hfit
      have hfit : ud = .slice e := hfit
      subst hfit
      split at h
      · rename_i de hde
        obtain ⟨ue, ie, erow⟩ := hty e de hde
        split at h
        · rename_i hku
          have hfit2 := erow.fits
          rw [hku] at hfit2
          have hfit2 : ue = .int .u8 := hfit2
          subst hfit2
          obtain ⟨hb, hK⟩ := h
          refine ⟨_, hK, fun w0 F Hp hs M w u hi hu => ?_⟩
          cases hu.inv_val
          have hr := Lib.run_convert_string_bytes w src dst e s row.und drow.und erow.und
          obtain ⟨g1, g2⟩ := hi.new_im (w' := Lib.bytesWorld w e s) _ (fun k hk => Lib.bytesWorld_at_old w e s k hk) (Lib.bytesWorld_at_new w e s)
            (by simp [Lib.bytesWorld, World.freeze, World.alloc, World.drew, -World.alloc_eq, -World.drew_eq]) (by simp [Lib.bytesWorld, World.freeze, World.alloc, World.drew, -World.alloc_eq, -World.drew_eq])
            (by simp [Lib.bytesWorld, World.freeze, World.alloc, World.drew, -World.alloc_eq, -World.drew_eq])
          refine ⟨_, _, _, hr, g2, g1, ?_⟩
          have hl := bytesL_len s
          have hge := grownCap_ge w s.size 0 e
          have hle := grownCap_le_maxLen w s.size 0 e (by simp only [maxLen]; omega)
          rw [← hl]
          refine .sl _ _ _ _ (fun i => [.int .u8 ((bytesL s)[i]?.getD 0)]) (by rw [hl]; exact hge) (by rw [hl]; exact hle) (fun e => by cases e) ?_ ?_
          · intro i x hx
            rw [hx]; exact .cons (.val _) .nil
          · intro i x j c hx hc
            have hi' := (List.getElem?_eq_some_iff.1 hx).1
            rw [hl] at hi'
            have hj : j = 0 := by
              have := (List.getElem?_eq_some_iff.1 hc).1
              simp at this; exact this
            subst hj
            refine ⟨_, rfl, ?_⟩
            rw [Addr.add_lit]
            simp only [cellAt, PH.put_at, ksz, Nat.mul_one, Nat.add_zero, Nat.zero_add, Lib.bytesCells]
            simp only [hx, List.getElem?_cons_zero, Option.getD_some, Option.some.injEq] at hc
            subst hc
            have hx' : s.data.toList[i]? = some s.data.toList[i] := List.getElem?_eq_getElem _
            have : x = (s.data.toList[i].toNat : Int) := by
              unfold bytesL at hx
              rw [List.getElem?_map, hx'] at hx
              simpa using hx.symm
            subst this
            have hsz : i < s.data.size := hi'
            simp [Array.getElem?_append, hi']
        · exact h.elim
      · exact h.elim
    · exact h.elim
  · exact h.elim

theorem evS2B_okX (hty : TyOk P ty) {src dst : TypeId} {x : AV} {K : AV → Prop} (h : evS2B ty src dst x K) : ∃ av, K av ∧ (∃ k xs, av = .sl k xs) ∧ ∀ (w0 : Base P) F Hp hs M w u, InvS w0 F Hp hs M w → Rep F Hp hs x u →
    ∃ v Hp' w', (convert src dst u).run P w = .ok v w' ∧ Hp.le Hp' ∧ (∀ hs M, InvS w0 F Hp hs M w → InvS w0 F Hp' hs M w') ∧ Rep F Hp' hs av v := by
  unfold evS2B at h
  split at h
  · rename_i ds dd s hs' hd
    obtain ⟨us, ti, row⟩ := hty src ds hs'
    obtain ⟨ud, tj, drow⟩ := hty dst dd hd
    split at h
    · rename_i e hk
      have hfit := drow.fits
      rw [hk] at hfit
      have hfit : ud = .slice e := hfit
      subst hfit
      split at h
      · rename_i de hde
        obtain ⟨ue, ie, erow⟩ := hty e de hde
        split at h
        · rename_i hku
          have hfit2 := erow.fits
          rw [hku] at hfit2
          have hfit2 : ue = .int .u8 := hfit2
          subst hfit2
          obtain ⟨hb, hK⟩ := h
          refine ⟨_, hK, ⟨_, _, rfl⟩, fun w0 F Hp hs M w u hi hu => ?_⟩
          cases hu.inv_val
          have hr := Lib.run_convert_string_bytes w src dst e s row.und drow.und erow.und
          have gall : ∀ hs M, InvS w0 F Hp hs M w → InvS w0 F (Hp.put w.heap.size _) hs M (Lib.bytesWorld w e s) ∧ Hp.le (Hp.put w.heap.size _) := fun hs M hi2 => hi2.new_im (w' := Lib.bytesWorld w e s) _ (fun k hk => Lib.bytesWorld_at_old w e s k hk) (Lib.bytesWorld_at_new w e s)
            (by simp [Lib.bytesWorld, World.freeze, World.alloc, World.drew, -World.alloc_eq, -World.drew_eq]) (by simp [Lib.bytesWorld, World.freeze, World.alloc, World.drew, -World.alloc_eq, -World.drew_eq])
            (by simp [Lib.bytesWorld, World.freeze, World.alloc, World.drew, -World.alloc_eq, -World.drew_eq])
          refine ⟨_, _, _, hr, (gall hs M hi).2, fun hs M hi2 => (gall hs M hi2).1, ?_⟩
          have hl := bytesL_len s
          have hge := grownCap_ge w s.size 0 e
          have hle := grownCap_le_maxLen w s.size 0 e (by simp only [maxLen]; omega)
          rw [← hl]
          refine .sl _ _ _ _ (fun i => [.int .u8 ((bytesL s)[i]?.getD 0)]) (by rw [hl]; exact hge) (by rw [hl]; exact hle) (fun e => by cases e) ?_ ?_
          · intro i x hx
            rw [hx]; exact .cons (.val _) .nil
          · intro i x j c hx hc
            have hi' := (List.getElem?_eq_some_iff.1 hx).1
            rw [hl] at hi'
            have hj : j = 0 := by
              have := (List.getElem?_eq_some_iff.1 hc).1
              simp at this; exact this
            subst hj
            refine ⟨_, rfl, ?_⟩
            rw [Addr.add_lit]
            simp only [cellAt, PH.put_at, ksz, Nat.mul_one, Nat.add_zero, Nat.zero_add, Lib.bytesCells]
            simp only [hx, List.getElem?_cons_zero, Option.getD_some, Option.some.injEq] at hc
            subst hc
            have hx' : s.data.toList[i]? = some s.data.toList[i] := List.getElem?_eq_getElem _
            have : x = (s.data.toList[i].toNat : Int) := by
              unfold bytesL at hx
              rw [List.getElem?_map, hx'] at hx
              simpa using hx.symm
            subst this
            have hsz : i < s.data.size := hi'
            simp [Array.getElem?_append, hi']
        · exact h.elim
      · exact h.elim
    · exact h.elim
  · exact h.elim

def evRange (ty : Ty) (t : TypeId) (x : AV) (M : List Blk) (K : AV → List Blk → Prop) : Prop :=
  match ty t, x with
  | some d, .val (.string s) => match d.k with
    | .str => K (.ptr M.length 0) (M ++ [.strIt s 0])
    | _ => False
  | _, _ => False
theorem evRange_ok (hty : TyOk P ty) {t : TypeId} {x : AV} {M : List Blk} {K : AV → List Blk → Prop} (h : evRange ty t x M K) : ∃ av M', K av M' ∧ ∀ (w0 : Base P) F Hp hs w u, InvS w0 F Hp hs M w → Rep F Hp hs x u →
    ∃ v ex w', (Instr.range t u).run P w = .ok v w' ∧ InvS w0 F Hp (hs ++ ex) M' w' ∧ Rep F Hp (hs ++ ex) av v := by
  unfold evRange at h
  split at h
  · rename_i d s hd
    obtain ⟨ud, ti, row⟩ := hty t d hd
    split at h
    · rename_i hk
      have hfit := row.fits
      rw [hk] at hfit
      have hfit : ud = .string := hfit
      subst hfit
      refine ⟨_, _, h, fun w0 F Hp hs w u hi hu => ?_⟩
      cases hu.inv_val
      refine ⟨_, [.pointer (some ⟨w.heap.size, 0, none⟩)], _, run_range_string w t s row.und, ?_, ?_⟩
      · refine hi.add _ _ (fun k hk => heap_alloc_ne w _ (by omega)) rfl rfl rfl rfl (fun b hb => by simp [idOf] at hb; omega) ?_
        exact ⟨w.heap.size, rfl, heap_alloc_at w _⟩
      · refine .ptr _ _ _ ?_
        rw [List.getElem?_append_right (by rw [hi.len]; exact Nat.le_refl _), hi.len]; simp
    · exact h.elim
  · exact h.elim
def evNext (x : AV) (isString : Bool) (M : List Blk) (K : AV → List Blk → Prop) : Prop :=
  match isString, x with
  | true, .ptr n 0 => match M[n]? with
    | some (.strIt s pos) => (pos < s.size → K (.tup [.tt, .i pos, .int .i32 (Utf8.decode s pos).1]) (M.set n (.strIt s (pos + (Utf8.decode s pos).2)))) ∧ (s.size ≤ pos → K (.tup [.ff]) M)
    | _ => False
  | _, _ => False
theorem evNext_ok {x : AV} {b : Bool} {M : List Blk} {K : AV → List Blk → Prop} (h : evNext x b M K) : ∃ av M', K av M' ∧ ∀ (P : Program) (w0 : Base P) F Hp hs w u T, InvS w0 F Hp hs M w → Rep F Hp hs x u →
    ∃ v w', (Instr.next u b T).run P w = .ok v w' ∧ InvS w0 F Hp hs M' w' ∧ Rep F Hp hs av v := by
  unfold evNext at h
  split at h
  · rename_i n
    split at h
    · rename_i s pos hm
      by_cases hp : pos < s.size
      · refine ⟨_, _, h.1 hp, fun P w0 F Hp hs w u T hi hu => ?_⟩
        cases hu with
        | ptr _ _ b hn =>
          obtain ⟨b', e, g⟩ := hi.blk n _ _ hm hn
          cases e
          refine ⟨_, _, Lib.run_next_any_at w b s pos T g hp, ?_, .tup _ _ (.cons .tt (.cons (.val _) (.cons (.val _) .nil)))⟩
          have hlt := (Array.getElem?_eq_some_iff.1 g).1
          have ht : Turned w (w.iterAt b s (pos + (Utf8.decode s pos).2)) b (.stringIter s (pos + (Utf8.decode s pos).2)) := by
            refine ⟨?_, fun k hk => ?_, rfl, rfl, rfl⟩
            · simp [World.iterAt, hlt]
            · simp only [World.iterAt]
              rw [Array.getElem?_setIfInBounds_ne (fun e => hk e.symm)]
          exact hi.turn hm rfl hn rfl ht ⟨b, rfl, ht.at_⟩
      · refine ⟨_, _, h.2 (by omega), fun P w0 F Hp hs w u T hi hu => ?_⟩
        cases hu with
        | ptr _ _ b hn =>
          obtain ⟨b', e, g⟩ := hi.blk n _ _ hm hn
          cases e
          refine ⟨.tuple #[.bool false], w, ?_, hi, .tup _ _ (.cons .ff .nil)⟩
          simp only [Instr.next, getObj, Sem.run_bind, Sem.run, g, Result.andThen, hp, if_false]
          rfl
    · exact h.elim
  · exact h.elim

def evIface (ty : Ty) (t : TypeId) (x : AV) (K : AV → Prop) : Prop :=
  match ty t with
  | some d => match d.k with
    | .iface | .other => False
    | _ => K (.ifc t x)
  | none => False
theorem evIface_ok (hty : TyOk P ty) {t : TypeId} {x : AV} {K : AV → Prop} (h : evIface ty t x K) : ∃ av, K av ∧ ∀ F Hp hs w u, Rep F Hp hs x u → ∃ v, (Instr.makeInterface t u).run P w = .ok v w ∧ Rep F Hp hs av v := by
  unfold evIface at h
  split at h
  · rename_i d hd
    obtain ⟨ud, ti, row⟩ := hty t d hd
    split at h
    · exact h.elim
    · exact h.elim
    · rename_i hn1 hn2
      refine ⟨_, h, fun F Hp hs w u hu => ⟨.iface t u, ?_, .ifc _ _ _ hu⟩⟩
      have := row.notIface hn1
      simp only [Instr.makeInterface, Sem.run_bind, row.run_und, Result.andThen_ok]
      cases ud <;> first | rfl | (exact absurd rfl (this _))
  · exact h.elim
def evAssert (ty : Ty) (x : AV) (t : TypeId) (ok : Bool) (K : AV → Prop) : Prop :=
  match ty t, x with
  | some d, .ifc T a => match d.k with
    | .iface | .other => False
    | _ => match Nat.beq T t, ok with
      | true, true => K (.tup [a, .tt])
      | true, false => K a
      | false, true => match d.zag with
        | true => K (.tup [.agg (d.zero.map .val), .ff])
        | false => K (.tup [.top, .ff])
      | false, false => False
  | _, _ => False
theorem evAssert_ok (hty : TyOk P ty) {x : AV} {t : TypeId} {ok : Bool} {K : AV → Prop} (h : evAssert ty x t ok K) : ∃ av, K av ∧ ∀ F Hp hs w u T, Rep F Hp hs x u → ∃ v, (Instr.typeAssert u T t ok).run P w = .ok v w ∧ Rep F Hp hs av v := by
  unfold evAssert at h
  split at h
  · rename_i d T' a hd
    obtain ⟨ud, ti, row⟩ := hty t d hd
    obtain ⟨z, hz1, hz2⟩ := row.zero
    have hzv : ∀ w, (zeroValue t).run P w = .ok z w := fun w => by simp [zeroValue, row.run_info, hz1]
    split at h
    · exact h.elim
    · exact h.elim
    · rename_i hn1 hn2
      have hni := row.notIface hn1
      have key : ∀ w v T, (Instr.typeAssert (.iface T' v) T t ok).run P w = (if T' = t then (pure (if ok then .tuple #[v, .bool true] else v) : Sem Value) else (if ok then do pure (.tuple #[← zeroValue t, .bool false]) else runtimePanic (.typeAssertion (some T) (some T') t ""))).run P w := by
        intro w v T
        simp only [Instr.typeAssert, Sem.run_bind, row.run_und, Result.andThen_ok]
      split at h
      · rename_i e1
        have e1 := beq_nat e1
        subst e1
        refine ⟨_, h, fun F Hp hs w u T hu => ?_⟩
        cases hu with
        | ifc _ _ v hv => exact ⟨_, by rw [key]; simp, .tup _ _ (.cons hv (.cons .tt .nil))⟩
      · rename_i e1
        have e1 := beq_nat e1
        subst e1
        refine ⟨_, h, fun F Hp hs w u T hu => ?_⟩
        cases hu with
        | ifc _ _ v hv => exact ⟨_, by rw [key]; simp, hv⟩
      · rename_i e1
        have e1 : T' ≠ t := fun e => by subst e; simp at e1
        split at h
        · rename_i hz
          have hz := row.zag hz
          have hz' : z = .agg d.zero.toArray := Option.some.inj (hz1.symm.trans hz)
          refine ⟨_, h, fun F Hp hs w u T hu => ?_⟩
          cases hu with
          | ifc _ _ v hv =>
            refine ⟨_, by rw [key, if_neg e1]; simp [hzv]; rfl, .tup _ _ (.cons ?_ (.cons .ff .nil))⟩
            rw [hz']
            exact .agg _ _ (reps_vals _)
        · refine ⟨_, h, fun F Hp hs w u T hu => ?_⟩
          cases hu with
          | ifc _ _ v hv => exact ⟨_, by rw [key, if_neg e1]; simp [hzv], .tup _ _ (.cons (.top z) (.cons .ff .nil))⟩
      · exact h.elim
  · exact h.elim
end Go.Sx
end
section
namespace Go.Sx
open Go

/-! names are renamed: into a callee's own, and back -/
def AV.plain : AV → Bool
  | .val _ | .tt | .ff | .sl _ _ => true
  | _ => false
def AV.plain1 : AV → Bool
  | .agg cs => cs.all AV.plain
  | x => x.plain
/-- 'b': what is lent stays lent -/
def renL (b : Bool) (f : Nat → Option Nat) : AV → AV
  | .val v => .val v
  | .tt => .tt
  | .ff => .ff
  | .sl k xs => .sl k xs
  | .lt k xs => match b with
    | true => .lt k xs
    | false => .top
  | .rp cs o => match b, cs.all AV.plain with
    | true, true => .rp cs o
    | _, _ => .top
  | .ptr n o => match f n with
    | some m => .ptr m o
    | none => .top
  | .ep n sz i o => match f n with
    | some m => .ep m sz i o
    | none => .top
  | .es n sz i l c => match f n with
    | some m => .es m sz i l c
    | none => .top
  | .own n => match f n with
    | some m => .own m
    | none => .top
  | .ifc T a => match a.plain1 with
    | true => .ifc T a
    | false => .top
  | _ => .top
def ren1 (b : Bool) (f : Nat → Option Nat) : AV → AV
  | .agg cs => .agg (cs.map (renL b f))
  | x => renL b f x
def ren2 (b : Bool) (f : Nat → Option Nat) : AV → AV
  | .tup cs => .tup (cs.map (ren1 b f))
  | x => ren1 b f x
def renB (b : Bool) (f : Nat → Option Nat) : Blk → Blk
  | .flat cs => .flat (cs.map (renL b f))
  | x => x

/-- values, and lists of values -/
def AV.flat : AV → Prop
  | .val _ => True
  | .sl k _ => k = .bool ∨ k = .cell ∨ ∃ i, k = .int i
  | .ifc _ (.val _) => True
  | .ifc _ (.agg [.val _, .val _, .sl k _, .val _]) => ∃ i, k = .int i
  | _ => False
theorem enc_flat : ∀ (k : Kd) (x : El k), ∀ a ∈ enc k x, a.flat := by
  intro k x a ha
  cases k <;> simp only [enc, encCell, encCur, encEv, encParse, encTerm, List.mem_cons, List.not_mem_nil, or_false] at ha <;>
    first
    | (rcases ha with rfl | rfl | rfl | rfl | rfl | rfl | rfl | rfl | rfl | rfl | rfl | rfl | rfl | rfl | rfl | rfl | rfl | rfl | rfl | rfl | rfl | rfl | rfl | rfl | rfl | rfl | rfl | rfl | rfl | rfl | rfl | rfl | rfl | rfl | rfl | rfl | rfl | rfl | rfl | rfl | rfl | rfl | rfl | rfl | rfl | rfl | rfl | rfl <;> simp [AV.flat])
    | (rcases ha with rfl | rfl | rfl | rfl | rfl | rfl | rfl | rfl | rfl | rfl <;> simp [AV.flat])
    | (rcases ha with rfl | rfl | rfl | rfl | rfl | rfl <;> simp [AV.flat])
    | (rcases ha with rfl | rfl | rfl | rfl | rfl <;> simp [AV.flat])
    | (rcases ha with rfl | rfl <;> simp [AV.flat])
    | (subst ha; simp [AV.flat])
    | (cases x <;> simp only [encVev, List.mem_cons, List.not_mem_nil, or_false] at ha <;> subst ha <;> simp [AV.flat])
section
variable {F Hp F' : PH} {hs hs' : List Value}
theorem vals_free {l : List AV} {vs : List Value} (hl : ∀ a ∈ l, ∃ v, a = .val v) (h : Reps F Hp hs l vs) : Reps F' Hp hs' l vs := by
  refine Reps.of_get h.length fun i x u h1 h2 => ?_
  obtain ⟨v, rfl⟩ := hl x (List.mem_of_getElem? h1)
  obtain ⟨x', e1, e2⟩ := h.getv i u h2
  rw [h1] at e1; cases e1
  cases e2.inv_val; exact .val _
theorem enc_vals {k : Kd} (hk : k = .bool ∨ k = .cell ∨ ∃ i, k = .int i) (x : El k) : ∀ a ∈ enc k x, ∃ v, a = .val v := by
  rcases hk with rfl | rfl | ⟨i, rfl⟩ <;> intro a ha
  · simp only [enc, List.mem_singleton] at ha; exact ⟨_, ha⟩
  · simp only [enc, encCell, List.mem_cons, List.not_mem_nil, or_false] at ha
    rcases ha with rfl | rfl | rfl | rfl | rfl | rfl <;> exact ⟨_, rfl⟩
  · simp only [enc, List.mem_singleton] at ha; exact ⟨_, ha⟩
theorem sl_free0 {k : Kd} {xs : List (El k)} {v : Value} (hk : k = .bool ∨ k = .cell ∨ ∃ i, k = .int i) (h : Rep F Hp hs (.sl k xs) v) : Rep F' Hp hs' (.sl k xs) v := by
  cases h with
  | sl _ _ A cap css h1 h2 h3 h4 h5 => exact .sl k xs A cap css h1 h2 h3 (fun i x hx => vals_free (enc_vals hk x) (h4 i x hx)) h5
theorem flat_free {a : AV} {v : Value} (ha : a.flat) (h : Rep F Hp hs a v) : Rep F' Hp hs' a v := by
  unfold AV.flat at ha
  split at ha
  · cases h.inv_val; exact .val _
  · exact sl_free0 ha h
  · cases h with | ifc _ _ _ h => cases h.inv_val; exact .ifc _ _ _ (.val _)
  · cases h with
    | ifc _ _ _ h =>
      obtain ⟨vs, rfl, g⟩ := h.inv_agg
      obtain ⟨u1, v1, rfl, q1, t1⟩ := Reps.inv_cons g
      obtain ⟨u2, v2, rfl, q2, t2⟩ := Reps.inv_cons t1
      obtain ⟨u3, v3, rfl, q3, t3⟩ := Reps.inv_cons t2
      obtain ⟨u4, v4, rfl, q4, t4⟩ := Reps.inv_cons t3
      cases t4.inv_nil
      cases q1.inv_val; cases q2.inv_val; cases q4.inv_val
      exact .ifc _ _ _ (.agg _ _ (.cons (.val _) (.cons (.val _) (.cons (sl_free0 (.inr (.inr ha)) q3) (.cons (.val _) .nil)))))
  · exact ha.elim
theorem flats_free {l : List AV} {vs : List Value} (hl : ∀ a ∈ l, a.flat) (h : Reps F Hp hs l vs) : Reps F' Hp hs' l vs := by
  refine Reps.of_get h.length fun i x u h1 h2 => ?_
  obtain ⟨x', e1, e2⟩ := h.getv i u h2
  rw [h1] at e1; cases e1
  exact flat_free (hl x (List.mem_of_getElem? h1)) e2
theorem enc_free {k : Kd} {x : El k} {vs : List Value} (h : Reps F Hp hs (enc k x) vs) : Reps F' Hp hs' (enc k x) vs := flats_free (enc_flat k x) h
theorem sl_free {k : Kd} {xs : List (El k)} {v : Value} (h : Rep F Hp hs (.sl k xs) v) : Rep F' Hp hs' (.sl k xs) v := by
  cases h with
  | sl _ _ A cap css h1 h2 h3 h4 h5 => exact .sl k xs A cap css h1 h2 h3 (fun i x hx => enc_free (h4 i x hx)) h5
theorem plain_free {a : AV} {v : Value} (ha : a.plain = true) (h : Rep F Hp hs a v) : Rep F' Hp hs' a v := by
  unfold AV.plain at ha
  split at ha
  · cases h.inv_val; exact .val _
  · cases h.inv_tt; exact .tt
  · cases h.inv_ff; exact .ff
  · exact sl_free h
  · cases ha
theorem plains_free {l : List AV} {vs : List Value} (hl : l.all AV.plain = true) (h : Reps F Hp hs l vs) : Reps F' Hp hs' l vs := by
  refine Reps.of_get h.length fun i x u h1 h2 => ?_
  obtain ⟨x', e1, e2⟩ := h.getv i u h2
  rw [h1] at e1; cases e1
  exact plain_free (List.all_eq_true.1 hl x (List.mem_of_getElem? h1)) e2
theorem plain1_free {a : AV} {v : Value} (ha : a.plain1 = true) (h : Rep F Hp hs a v) : Rep F' Hp hs' a v := by
  unfold AV.plain1 at ha
  split at ha
  · obtain ⟨vs, rfl, g⟩ := h.inv_agg
    exact .agg _ _ (plains_free ha g)
  · exact plain_free ha h

/-- a renaming that leads names to their handles -/
def Leads (f : Nat → Option Nat) (hs hs' : List Value) : Prop := ∀ n m v, f n = some m → hs[n]? = some v → hs'[m]? = some v

theorem renL_ok {b : Bool} {f : Nat → Option Nat} (hb : b = true → F.le F') (hf : Leads f hs hs') {a : AV} {v : Value} (h : Rep F Hp hs a v) : Rep F' Hp hs' (renL b f a) v := by
  cases h with
  | top v => exact .top v
  | val v => exact .val v
  | tt => exact .tt
  | ff => exact .ff
  | sl k xs A cap css h1 h2 h3 h4 h5 => exact sl_free (.sl k xs A cap css h1 h2 h3 h4 h5)
  | lt k xs A cap css h1 h2 h3 h4 h5 =>
    cases b with
    | false => exact .top _
    | true => exact .lt k xs A cap css h1 h2 h3 (fun i x hx => enc_free (h4 i x hx)) (fun i x j c hx hc => let ⟨a, e, g⟩ := h5 i x j c hx hc; ⟨a, e, rdAt.mono (hb rfl) (PH.le.refl _) g⟩)
  | rp cs off a vs hr hc =>
    unfold renL
    simp only
    split
    · rename_i hbt hp
      exact .rp cs off a vs (plains_free hp hr) (fun j c h => rdAt.mono (hb rfl) (PH.le.refl _) (hc j c h))
    · exact .top _
  | ptr n off b' hn =>
    simp only [renL]
    split
    · rename_i m hm; exact .ptr _ _ _ (hf _ _ _ hm hn)
    · exact .top _
  | ep n sz i off b' l c hn =>
    simp only [renL]
    split
    · rename_i m hm; exact .ep _ _ _ _ _ _ _ (hf _ _ _ hm hn)
    · exact .top _
  | es n sz i len cap b' l c A c' hn h2 h3 h4 h5 =>
    simp only [renL]
    split
    · rename_i m hm; exact .es _ _ _ _ _ _ _ _ _ _ (hf _ _ _ hm hn) h2 h3 h4 h5
    · exact .top _
  | own n v hn =>
    simp only [renL]
    split
    · rename_i m hm; exact .own _ _ (hf _ _ _ hm hn)
    · exact .top _
  | agg cs vs h => exact .top _
  | tup cs vs h => exact .top _
  | ifc T a v h =>
    simp only [renL]
    split
    · rename_i hp; exact .ifc _ _ _ (plain1_free hp h)
    · exact .top _
theorem renLs_ok {b : Bool} {f : Nat → Option Nat} (hb : b = true → F.le F') (hf : Leads f hs hs') {l : List AV} {vs : List Value} (h : Reps F Hp hs l vs) : Reps F' Hp hs' (l.map (renL b f)) vs := by
  refine Reps.of_get (by rw [List.length_map]; exact h.length) fun i x u h1 h2 => ?_
  obtain ⟨x', e1, e2⟩ := h.getv i u h2
  rw [List.getElem?_map, e1] at h1; cases h1
  exact renL_ok hb hf e2
theorem ren1_ok {b : Bool} {f : Nat → Option Nat} (hb : b = true → F.le F') (hf : Leads f hs hs') {a : AV} {v : Value} (h : Rep F Hp hs a v) : Rep F' Hp hs' (ren1 b f a) v := by
  unfold ren1
  split
  · obtain ⟨vs, rfl, g⟩ := h.inv_agg
    exact .agg _ _ (renLs_ok hb hf g)
  · exact renL_ok hb hf h
theorem ren1s_ok {b : Bool} {f : Nat → Option Nat} (hb : b = true → F.le F') (hf : Leads f hs hs') {l : List AV} {vs : List Value} (h : Reps F Hp hs l vs) : Reps F' Hp hs' (l.map (ren1 b f)) vs := by
  refine Reps.of_get (by rw [List.length_map]; exact h.length) fun i x u h1 h2 => ?_
  obtain ⟨x', e1, e2⟩ := h.getv i u h2
  rw [List.getElem?_map, e1] at h1; cases h1
  exact ren1_ok hb hf e2
theorem ren2_ok {b : Bool} {f : Nat → Option Nat} (hb : b = true → F.le F') (hf : Leads f hs hs') {a : AV} {v : Value} (h : Rep F Hp hs a v) : Rep F' Hp hs' (ren2 b f a) v := by
  unfold ren2
  split
  · obtain ⟨vs, rfl, g⟩ := h.inv_tup
    exact .tup _ _ (ren1s_ok hb hf g)
  · exact ren1_ok hb hf h
theorem renB_ok {b : Bool} {f : Nat → Option Nat} (hb : b = true → F.le F') (hf : Leads f hs hs') {w : World} {h : Value} {blk : Blk} (g : BlkAt F Hp hs w h blk) : BlkAt F' Hp hs' w h (renB b f blk) := by
  cases blk with
  | flat cs =>
    obtain ⟨b', T, vs, e, h1, h2⟩ := g
    exact ⟨b', T, vs, e, h1, renLs_ok hb hf h2⟩
  | arr k xs =>
    obtain ⟨A, cap, e, h1, h2, h3, h4⟩ := g
    refine ⟨A, cap, e, h1, h2, h3, fun a ha => ?_⟩
    obtain ⟨b', T, c, g1, g2, g3, g4⟩ := h4 a ha
    exact ⟨b', T, c, g1, g2, g3, fun i x hx => enc_free (g4 i x hx)⟩
  | strIt s p => exact g
  | dead => trivial
end
end Go.Sx
end
section
namespace Go.Sx
open Go

def AV.nmL : AV → List Nat
  | .ptr n _ => [n]
  | .ep n _ _ _ => [n]
  | .es n _ _ _ _ => [n]
  | .own n => [n]
  | _ => []
def AV.nm1 : AV → List Nat
  | .agg cs => cs.flatMap AV.nmL
  | x => x.nmL
def Blk.nm : Blk → List Nat
  | .flat cs => cs.flatMap AV.nmL
  | _ => []
def hasN : List Nat → Nat → Bool
  | [], _ => false
  | m :: r, n => match Nat.beq m n with
    | true => true
    | false => hasN r n
def addN (acc : List Nat) (n : Nat) : List Nat :=
  match hasN acc n with
  | true => acc
  | false => acc ++ [n]
def reach1 (M : List Blk) (acc : List Nat) : List Nat := acc.foldl (fun a n => match M[n]? with
  | some b => b.nm.foldl addN a
  | none => a) acc
def idxN : List Nat → Nat → Option Nat
  | [], _ => none
  | m :: r, n => match Nat.beq m n with
    | true => some 0
    | false => (idxN r n).map (· + 1)
def ndN : List Nat → Bool
  | [] => true
  | m :: r => match hasN r m with
    | true => false
    | false => ndN r
theorem hasN_iff : ∀ {l : List Nat} {n : Nat}, hasN l n = true ↔ n ∈ l
  | [], n => by simp [hasN]
  | m :: r, n => by
    simp only [hasN]
    split
    · rename_i h; have := beq_nat h; subst this; simp
    · rename_i h
      have hne : n ≠ m := fun e => by subst e; simp at h
      simp [hasN_iff, hne]
theorem ndN_ok : ∀ {l : List Nat}, ndN l = true → l.Nodup
  | [], _ => List.nodup_nil
  | m :: r, h => by
    simp only [ndN] at h
    split at h
    · cases h
    · rename_i hh
      refine List.nodup_cons.2 ⟨fun hm => ?_, ndN_ok h⟩
      rw [hasN_iff.2 hm] at hh; cases hh
theorem idxN_ok : ∀ {l : List Nat} {n i : Nat}, idxN l n = some i → l[i]? = some n
  | [], n, i, h => by simp [idxN] at h
  | m :: r, n, i, h => by
    simp only [idxN] at h
    split at h
    · rename_i hh; have := beq_nat hh; subst this; cases h; rfl
    · obtain ⟨j, hj, rfl⟩ := Option.map_eq_some_iff.1 h
      simpa using idxN_ok hj
theorem nodup_get : ∀ {l : List Nat}, l.Nodup → ∀ {i j n : Nat}, l[i]? = some n → l[j]? = some n → i = j
  | [], _, i, j, n, h, _ => by simp at h
  | m :: r, hd, 0, 0, n, _, _ => rfl
  | m :: r, hd, 0, j + 1, n, h1, h2 => by
    simp at h1 h2; subst h1
    exact absurd (List.mem_of_getElem? h2) (List.nodup_cons.1 hd).1
  | m :: r, hd, i + 1, 0, n, h1, h2 => by
    simp at h1 h2; subst h2
    exact absurd (List.mem_of_getElem? h1) (List.nodup_cons.1 hd).1
  | m :: r, hd, i + 1, j + 1, n, h1, h2 => by
    exact congrArg (· + 1) (nodup_get (List.nodup_cons.1 hd).2 (n := n) (by simpa using h1) (by simpa using h2))

def locH (ns : List Nat) (hs : List Value) : List Value := ns.map fun n => hs.getD n undef
def locM (ns : List Nat) (M : List Blk) : List Blk := ns.map fun n => renB true (idxN ns) (M.getD n .dead)
def setAll : List Blk → List Nat → List Blk → List Blk
  | M, n :: ns, b :: bs => setAll (M.set n b) ns bs
  | M, _, _ => M
def backN (k len : Nat) (ns : List Nat) (i : Nat) : Option Nat :=
  match Nat.ble (i + 1) k with
  | true => ns[i]?
  | false => some (len + (i - k))
def backM (M : List Blk) (ns : List Nat) (ML : List Blk) : List Blk :=
  let g := backN ns.length M.length ns
  setAll M ns ((ML.take ns.length).map (renB false g)) ++ (ML.drop ns.length).map (renB false g)
theorem setAll_len : ∀ (ns : List Nat) (M bs : List Blk), (setAll M ns bs).length = M.length
  | [], M, bs => by simp [setAll]
  | n :: ns, M, [] => by simp [setAll]
  | n :: ns, M, b :: bs => by rw [setAll, setAll_len ns]; simp
theorem setAll_out : ∀ (ns : List Nat) (M bs : List Blk) (n : Nat), n ∉ ns → (setAll M ns bs)[n]? = M[n]?
  | [], M, bs, n, _ => by simp [setAll]
  | m :: ns, M, [], n, _ => by simp [setAll]
  | m :: ns, M, b :: bs, n, h => by
    rw [setAll, setAll_out ns _ _ _ (fun hm => h (List.mem_cons_of_mem _ hm)), List.getElem?_set_ne (fun e => h (by rw [← e]; exact List.mem_cons_self ..))]
theorem setAll_in : ∀ (ns : List Nat) (M bs : List Blk) (i n : Nat), ns.Nodup → ns.length = bs.length → ns[i]? = some n → n < M.length → (setAll M ns bs)[n]? = bs[i]?
  | [], M, bs, i, n, _, _, h, _ => by simp at h
  | m :: ns, M, [], i, n, _, h, _, _ => by simp at h
  | m :: ns, M, b :: bs, 0, n, hd, hl, h, hn => by
    simp at h; subst h
    rw [setAll, setAll_out ns _ _ _ (List.nodup_cons.1 hd).1, List.getElem?_set_self hn]; rfl
  | m :: ns, M, b :: bs, i + 1, n, hd, hl, h, hn => by
    rw [setAll, setAll_in ns _ bs i n (List.nodup_cons.1 hd).2 (by simpa using hl) (by simpa using h) (by simpa using hn)]; simp

section
variable {P : Program} {w0 : Base P} {w : World} {F Hp : PH} {hs : List Value} {M : List Blk} {ns : List Nat}

theorem locH_get {i n : Nat} (h : ns[i]? = some n) (hn : n < hs.length) : (locH ns hs)[i]? = hs[n]? := by
  unfold locH
  rw [List.getElem?_map, h]
  simp [List.getD, List.getElem?_eq_getElem hn]
theorem leads_loc (hlt : ∀ n ∈ ns, n < hs.length) : Leads (idxN ns) hs (locH ns hs) := by
  intro n m v h1 h2
  have h := idxN_ok h1
  rw [locH_get h (hlt n (List.mem_of_getElem? h))]; exact h2
theorem loc_get {i : Nat} {blk : Blk} {v : Value} (hl : hs.length = M.length) (hlt : ∀ n ∈ ns, n < M.length) (h1 : (locM ns M)[i]? = some blk) (h2 : (locH ns hs)[i]? = some v) :
    ∃ n b, ns[i]? = some n ∧ M[n]? = some b ∧ hs[n]? = some v ∧ blk = renB true (idxN ns) b := by
  unfold locM at h1
  rw [List.getElem?_map] at h1
  cases hn : ns[i]? with
  | none => rw [hn] at h1; cases h1
  | some n =>
    have hl1 := hlt n (List.mem_of_getElem? hn)
    rw [locH_get hn (by omega)] at h2
    rw [hn] at h1
    simp [List.getD, List.getElem?_eq_getElem hl1] at h1
    exact ⟨n, _, rfl, List.getElem?_eq_getElem hl1, h2, h1.symm⟩
theorem renB_live {b : Bool} {f : Nat → Option Nat} {blk : Blk} : (renB b f blk).live = blk.live := by cases blk <;> rfl

/-- other names, in another order -/
theorem InvS.sub (hi : InvS w0 F Hp hs M w) (hnd : ns.Nodup) (hlt : ∀ n ∈ ns, n < M.length) : InvS w0 F Hp (locH ns hs) (locM ns M) w where
  perm := hi.perm
  fr := hi.fr
  pf := hi.pf
  len := by simp [locH, locM]
  one v hv := by
    unfold locH at hv
    obtain ⟨n, hn, rfl⟩ := List.mem_map.1 hv
    have := hlt n hn
    rw [← hi.len] at this
    have e : hs[n]? = some (hs.getD n undef) := by simp [List.getD, List.getElem?_eq_getElem this]
    exact hi.one _ (List.mem_of_getElem? e)
  blk i blk v h1 h2 := by
    obtain ⟨n, b, e1, e2, e3, rfl⟩ := loc_get hi.len hlt h1 h2
    exact renB_ok (fun _ => PH.le.refl _) (leads_loc (fun n hn => by rw [hi.len]; exact hlt n hn)) (hi.blk n b v e2 e3)
  own i blk v b h1 hl h2 hb := by
    obtain ⟨n, b', e1, e2, e3, rfl⟩ := loc_get hi.len hlt h1 h2
    exact hi.own n b' v b e2 (by rwa [renB_live] at hl) e3 hb
  inj i j bi bj vi vj b h1 h2 l1 l2 g1 g2 i1 i2 := by
    obtain ⟨n, b1, e1, e2, e3, rfl⟩ := loc_get hi.len hlt h1 g1
    obtain ⟨m, b2, e4, e5, e6, rfl⟩ := loc_get hi.len hlt h2 g2
    have := hi.inj n m b1 b2 vi vj b e2 e5 (by rwa [renB_live] at l1) (by rwa [renB_live] at l2) e3 e6 i1 i2
    subst this
    exact nodup_get hnd e1 e4
  os := hi.os
  tape := hi.tape
  output := hi.output
  gl := hi.gl

/-- what is lent to a callee: all that it may not turn -/
noncomputable def lend (F : PH) (hs : List Value) (M : List Blk) (ns : List Nat) (w : World) : PH := fun b =>
  match F b with
  | some o => some o
  | none => open Classical in if ∃ n blk v, n ∉ ns ∧ M[n]? = some blk ∧ blk.live = true ∧ hs[n]? = some v ∧ idOf v = some b then w.heap[b]? else none
theorem lend_le : F.le (lend F hs M ns w) := by
  intro b o h
  simp [lend, h]
theorem lend_at (hi : InvS w0 F Hp hs M w) {n : Nat} {blk : Blk} {v : Value} {b : Nat} (hn : n ∉ ns) (hm : M[n]? = some blk) (hl : blk.live = true) (hv : hs[n]? = some v) (hb : idOf v = some b) : lend F hs M ns w b = w.heap[b]? := by
  unfold lend
  rw [(hi.own n blk v b hm hl hv hb).2]
  simp only
  rw [if_pos ⟨n, blk, v, hn, hm, hl, hv, hb⟩]
theorem lend_inv (hi : InvS w0 F Hp hs M w) {b : Nat} {o : Obj} (h : lend F hs M ns w b = some o) : F b = some o ∨ (F b = none ∧ ∃ n blk v, n ∉ ns ∧ M[n]? = some blk ∧ blk.live = true ∧ hs[n]? = some v ∧ idOf v = some b ∧ w.heap[b]? = some o) := by
  unfold lend at h
  split at h
  · rename_i o' hf; cases h; exact .inl hf
  · rename_i hf
    split at h
    · rename_i hx
      obtain ⟨n, blk, v, h1, h2, h3, h4, h5⟩ := hx
      exact .inr ⟨hf, n, blk, v, h1, h2, h3, h4, h5, h⟩
    · cases h
theorem InvS.lent (hi : InvS w0 F Hp hs M w) (hnd : ns.Nodup) (hlt : ∀ n ∈ ns, n < M.length) : InvS w0 (lend F hs M ns w) Hp (locH ns hs) (locM ns M) w := by
  have hs' := hi.sub hnd hlt
  refine ⟨hi.perm, ?_, ?_, hs'.len, hs'.one, ?_, ?_, hs'.inj, hi.os, hi.tape, hi.output, fun b o h => (hi.gl b o h).imp (lend_le b o) id⟩
  · intro b o h
    rcases lend_inv hi h with h | ⟨_, _, _, _, _, _, _, _, _, h⟩
    · exact hi.fr b o h
    · exact h
  · intro b
    cases hl : lend F hs M ns w b with
    | none => exact .inr rfl
    | some o =>
      rcases lend_inv hi hl with h | ⟨_, n, blk, v, _, h2, h3, h4, h5, _⟩
      · rcases hi.pf b with g | g
        · exact .inl g
        · rw [g] at h; cases h
      · exact .inl (hi.own n blk v b h2 h3 h4 h5).1
  · intro n blk v h1 h2
    exact (hs'.blk n blk v h1 h2).mono lend_le (PH.le.refl _) (HL.refl _) fun _ _ => rfl
  · intro i blk v b h1 hl h2 hb
    obtain ⟨n, b', e1, e2, e3, rfl⟩ := loc_get hi.len hlt h1 h2
    have hl' : b'.live = true := by rwa [renB_live] at hl
    obtain ⟨g1, g2⟩ := hi.own n b' v b e2 hl' e3 hb
    refine ⟨g1, ?_⟩
    cases hx : lend F hs M ns w b with
    | none => rfl
    | some o =>
      rcases lend_inv hi hx with h | ⟨_, m, blk, v', q1, q2, q3, q4, q5, _⟩
      · rw [g2] at h; cases h
      · have := hi.inj n m b' blk v v' b e2 q2 hl' q3 e3 q4 hb q5
        subst this
        exact absurd (List.mem_of_getElem? e1) q1

theorem back_key {hsL : List Value} {ML : List Blk} (hl : hs.length = M.length) (hnd : ns.Nodup) (hlt : ∀ n ∈ ns, n < M.length) (hlL : hsL.length = ML.length) (hag : ∀ i : Nat, i < ns.length → hsL[i]? = (locH ns hs)[i]?) {n : Nat} {blk : Blk} {v : Value}
    (h1 : (backM M ns ML)[n]? = some blk) (h2 : (hs ++ hsL.drop ns.length)[n]? = some v) :
    (∃ i b, ML[i]? = some b ∧ hsL[i]? = some v ∧ blk = renB false (backN ns.length M.length ns) b ∧ backN ns.length M.length ns i = some n) ∨ (n ∉ ns ∧ M[n]? = some blk ∧ hs[n]? = some v) := by
  have hk : ns.length ≤ ML.length := by
    rw [← hlL]
    apply Nat.le_of_not_lt
    intro hc
    have := hag hsL.length hc
    rw [List.getElem?_eq_none (Nat.le_refl _)] at this
    have h' : hsL.length < (locH ns hs).length := by simp [locH]; exact hc
    rw [List.getElem?_eq_getElem h'] at this; cases this
  have htl : ((ML.take ns.length).map (renB false (backN ns.length M.length ns))).length = ns.length := by simp; omega
  unfold backM at h1
  simp only at h1
  by_cases hn : n < M.length
  · rw [List.getElem?_append_left (by rw [setAll_len]; exact hn)] at h1
    rw [List.getElem?_append_left (by omega)] at h2
    by_cases hm : n ∈ ns
    · obtain ⟨i, hi⟩ := List.getElem?_of_mem hm
      rw [setAll_in ns M _ i n hnd htl.symm hi hn] at h1
      have hil := (List.getElem?_eq_some_iff.1 hi).1
      rw [List.getElem?_map, List.getElem?_take, if_pos hil] at h1
      obtain ⟨b, e1, e2⟩ := Option.map_eq_some_iff.1 h1
      refine .inl ⟨i, b, e1, ?_, e2.symm, ?_⟩
      · rw [hag i hil, locH_get hi (by omega)]; exact h2
      · have hble : Nat.ble (i + 1) ns.length = true := Nat.ble_eq_true_of_le hil
        simp only [backN, hble]; exact hi
    · rw [setAll_out ns M _ n hm] at h1
      exact .inr ⟨hm, h1, h2⟩
  · rw [List.getElem?_append_right (by rw [setAll_len]; omega), setAll_len, List.getElem?_map, List.getElem?_drop] at h1
    rw [List.getElem?_append_right (by omega), List.getElem?_drop, hl] at h2
    obtain ⟨b, e1, e2⟩ := Option.map_eq_some_iff.1 h1
    refine .inl ⟨ns.length + (n - M.length), b, e1, h2, e2.symm, ?_⟩
    have hble : Nat.ble (ns.length + (n - M.length) + 1) ns.length = false := by
      rw [Bool.eq_false_iff]; intro h; have := Nat.le_of_ble_eq_true h; omega
    simp only [backN, hble]
    congr 1; omega
theorem leads_back {hsL : List Value} {lenM : Nat} (hl : hs.length = lenM) (hlt : ∀ n ∈ ns, n < lenM) (hag : ∀ i : Nat, i < ns.length → hsL[i]? = (locH ns hs)[i]?) : Leads (backN ns.length lenM ns) hsL (hs ++ hsL.drop ns.length) := by
  intro i m v h1 h2
  unfold backN at h1
  split at h1
  · rename_i hb
    have hi := Nat.le_of_ble_eq_true hb
    have hm := hlt m (List.mem_of_getElem? h1)
    rw [List.getElem?_append_left (by omega), ← locH_get h1 (by omega), ← hag i hi]; exact h2
  · rename_i hb
    have hi : ns.length ≤ i := by
      apply Nat.le_of_not_lt
      intro hc
      rw [Nat.ble_eq_true_of_le hc] at hb; cases hb
    cases h1
    rw [List.getElem?_append_right (by omega), List.getElem?_drop, hl]
    rw [show ns.length + (lenM + (i - ns.length) - lenM) = i by omega]; exact h2
theorem InvS.back (hi : InvS w0 F Hp hs M w) (hnd : ns.Nodup) (hlt : ∀ n ∈ ns, n < M.length) {Hp' : PH} {hsL : List Value} {ML : List Blk} {w' : World}
    (hle : Hp.le Hp') (hL : InvS w0 (lend F hs M ns w) Hp' hsL ML w') (hag : ∀ i : Nat, i < ns.length → hsL[i]? = (locH ns hs)[i]?) :
    InvS w0 F Hp' (hs ++ hsL.drop ns.length) (backM M ns ML) w' := by
  have hk : ns.length ≤ ML.length := by
    rw [← hL.len]
    apply Nat.le_of_not_lt
    intro hc
    have := hag hsL.length hc
    rw [List.getElem?_eq_none (Nat.le_refl _)] at this
    have h' : hsL.length < (locH ns hs).length := by simp [locH]; exact hc
    rw [List.getElem?_eq_getElem h'] at this; cases this
  have hg := leads_back (hsL := hsL) hi.len hlt hag
  have hF : ∀ {b : Nat}, lend F hs M ns w b = none → F b = none := by
    intro b hb
    cases hx : F b with
    | none => rfl
    | some o => rw [lend_le b o hx] at hb; cases hb
  -- another's block is ags it was
  have oth : ∀ {n : Nat} {blk : Blk} {v : Value} {b : Nat}, n ∉ ns → M[n]? = some blk → blk.live = true → hs[n]? = some v → idOf v = some b → w'.heap[b]? = w.heap[b]? ∧ lend F hs M ns w b ≠ none := by
    intro n blk v b h1 h2 h3 h4 h5
    obtain ⟨o, ho⟩ := (hi.blk n blk v h2 h4).id h5 h3
    have e := lend_at hi h1 h2 h3 h4 h5 (ns := ns)
    rw [ho] at e
    exact ⟨by rw [hL.fr b o e, ho], by rw [e]; simp⟩
  refine ⟨hL.perm, fun b o h => hL.fr b o (lend_le b o h), ?_, ?_, ?_, ?_, ?_, ?_, hL.os, hL.tape, hL.output, fun b o h => (hi.gl b o h).imp id (hle b o)⟩
  · intro b
    rcases hL.pf b with h | h
    · exact .inl h
    · exact .inr (hF h)
  · have := hL.len
    have := hi.len
    simp [backM, setAll_len]; omega
  · intro v hv
    rcases List.mem_append.1 hv with hv | hv
    · exact hi.one v hv
    · exact hL.one v (List.mem_of_mem_drop hv)
  · intro n blk v h1 h2
    rcases back_key hi.len hnd hlt hL.len hag h1 h2 with ⟨i, b, e1, e2, rfl, e4⟩ | ⟨e1, e2, e3⟩
    · exact renB_ok (fun h => by cases h) hg (hL.blk i b v e1 e2)
    · by_cases hl : blk.live = true
      · exact (hi.blk n blk v e2 e3).mono (PH.le.refl _) hle (HL.append _ _) fun b hb => (oth e1 e2 hl e3 hb).1
      · cases blk <;> simp [Blk.live] at hl
        trivial
  · intro n blk v b h1 hl h2 hb
    rcases back_key hi.len hnd hlt hL.len hag h1 h2 with ⟨i, bl, e1, e2, rfl, e4⟩ | ⟨e1, e2, e3⟩
    · obtain ⟨g1, g2⟩ := hL.own i bl v b e1 (by rwa [renB_live] at hl) e2 hb
      exact ⟨g1, hF g2⟩
    · refine ⟨?_, (hi.own n blk v b e2 hl e3 hb).2⟩
      rcases hL.pf b with h | h
      · exact h
      · exact absurd h (oth e1 e2 hl e3 hb).2
  · intro n m bn bm vn vm b h1 h2 l1 l2 g1 g2 i1 i2
    have q1 := back_key hi.len hnd hlt hL.len hag h1 g1
    have q2 := back_key hi.len hnd hlt hL.len hag h2 g2
    clear h1 h2
    rcases q1 with ⟨i, x, e1, e2, rfl, e4⟩ | ⟨e1, e2, e3⟩ <;> rcases q2 with ⟨j, y, f1, f2, rfl, f4⟩ | ⟨f1, f2, f3⟩
    · rw [renB_live] at l1 l2
      have := hL.inj i j x y vn vm b e1 f1 l1 l2 e2 f2 i1 i2
      subst this
      rw [e4] at f4; cases f4; rfl
    · rw [renB_live] at l1
      have := (hL.own i x vn b e1 l1 e2 i1).2
      exact absurd this (oth f1 f2 l2 f3 i2).2
    · rw [renB_live] at l2
      have := (hL.own j y vm b f1 l2 f2 i2).2
      exact absurd this (oth e1 e2 l1 e3 i1).2
    · exact hi.inj n m bn bm vn vm b e2 f2 l1 l2 e3 f3 i1 i2
end
end Go.Sx
end
section
namespace Go.Sx
open Go
variable {P : Program}

/-! contracts -/
/-- how an argument is handed over: ags it is; to be read; kept; a struct whose slices are to be read; with its memory -/
inductive Md where
  | v
  | r (k : Kd)
  | s (k : Kd)
  | g (l : List (Option Kd))
  | m
  | o (k : Kd)
structure Con where
  md : List Md
  ev : List AV → List Blk → (AV → List Blk → Prop) → Prop
abbrev Cons := FuncId → Option Con

/-- a call of a function with a body -/
def Runs (P : Program) (f : FuncId) (vs : List Value) (w : World) (R : Value → World → Prop) : Prop :=
  (∃ fn c, P.funcs[f]? = some fn ∧ (fn.name == "runtime.NumGoroutine") = false ∧ fn.body = some c) ∧ Calls P f vs.toArray w fun
    | .returned v, w' => R v w'
    | _, _ => False
theorem Runs.mono {f : FuncId} {vs : List Value} {w : World} {R R' : Value → World → Prop} (h : Runs P f vs w R) (hr : ∀ v w, R v w → R' v w) : Runs P f vs w R' :=
  ⟨h.1, Calls.mono h.2 fun e w he => by cases e <;> first | exact hr _ _ he | exact he⟩
def ConOk (P : Program) (f : FuncId) (c : Con) : Prop :=
  ∀ ags M K, c.ev ags M K → ∃ av M', K av M' ∧ ∀ (w0 : Base P) F Hp hs w vs, InvS w0 F Hp hs M w → Reps F Hp hs ags vs →
    Runs P f vs w fun v w' => ∃ Hp' hs', Hp.le Hp' ∧ (∀ i : Nat, i < M.length → hs'[i]? = hs[i]?) ∧ InvS w0 F Hp' hs' M' w' ∧ Rep F Hp' hs' av v
def ConsOk (P : Program) (Γ : Cons) : Prop := ∀ f c, Γ f = some c → ConOk P f c

def nrm0 : AV → AV
  | .tt => .val (.bool true)
  | .ff => .val (.bool false)
  | x => x
def nrm : AV → AV
  | .agg cs => .agg (cs.map nrm0)
  | x => nrm0 x
def apart (ns : List Nat) : List Nat → Bool
  | [] => true
  | n :: r => match hasN ns n with
    | true => false
    | false => apart ns r
def locR (M : List Blk) (ns : List Nat) (k : Kd) (x : AV) (J : AV → Prop) : Prop :=
  match rdL M k x, apart ns x.nmL with
  | some xs, true => rdG M x (J (.lt k xs))
  | _, _ => False
def locG (M : List Blk) (ns : List Nat) : List (Option Kd) → List AV → (List AV → Prop) → Prop
  | [], [], J => J []
  | none :: l, x :: cs, J => match x.plain with
    | true => locG M ns l cs fun cs' => J (nrm x :: cs')
    | false => False
  | some k :: l, x :: cs, J => locR M ns k x fun x' => locG M ns l cs fun cs' => J (x' :: cs')
  | _, _, _ => False
def locA (M : List Blk) (ns : List Nat) (md : Md) (x : AV) (J : AV → Prop) : Prop :=
  match md, x with
  | .v, .ifc T a => match a.plain1 with
    | true => J (.ifc T a)
    | false => False
  | .v, x => match x.plain1 with
    | true => J (nrm x)
    | false => False
  | .r k, x => locR M ns k x J
  | .s k, .sl k' xs => match castL (k := k) xs with
    | some xs => J (.sl k xs)
    | none => False
  | .s k, .val (.slice none 0 0) => J (.sl k [])
  | .s _, _ => False
  | .g l, .agg cs => locG M ns l cs fun cs' => J (.agg cs')
  | .g _, _ => False
  | .m, x => J (ren1 true (idxN ns) x)
  | .o _, x => J (ren1 true (idxN ns) x)
def locAs (M : List Blk) (ns : List Nat) : List Md → List AV → (List AV → Prop) → Prop
  | [], [], J => J []
  | md :: l, x :: ags, J => locA M ns md x fun x' => locAs M ns l ags fun ags' => J (x' :: ags')
  | _, _, _ => False
def startN : List Md → List AV → List Nat → List Nat
  | .m :: l, x :: ags, acc => startN l ags (x.nm1.foldl addN acc)
  | .o _ :: l, x :: ags, acc => startN l ags (x.nm1.foldl addN acc)
  | _ :: l, _ :: ags, acc => startN l ags acc
  | _, _, acc => acc
def below (n : Nat) : List Nat → Bool
  | [] => true
  | m :: r => match Nat.ble (m + 1) n with
    | true => below n r
    | false => false
def okN (M : List Blk) (ns : List Nat) : Bool :=
  match ndN ns, below M.length ns with
  | true, true => true
  | _, _ => false
theorem below_ok {n : Nat} : ∀ {l : List Nat}, below n l = true → ∀ m ∈ l, m < n
  | [], _, m, hm => by simp at hm
  | a :: r, h, m, hm => by
    simp only [below] at h
    split at h
    · rename_i hb
      rcases List.mem_cons.1 hm with rfl | hm
      · exact Nat.le_of_ble_eq_true hb
      · exact below_ok h m hm
    · cases h
theorem okN_ok {M : List Blk} {ns : List Nat} (h : okN M ns = true) : ns.Nodup ∧ ∀ n ∈ ns, n < M.length := by
  unfold okN at h
  split at h
  · rename_i h1 h2; exact ⟨ndN_ok h1, below_ok h2⟩
  · cases h
def nilsM (l : List Kd) : List Blk := l.map fun k => .arr k []
/-- nothing, where a slice of one's own is handed over -/
def nilO (lenM : Nat) : List Md → List AV → List AV → List Kd → (List AV → List Kd → Prop) → Prop
  | .o k :: l, .val (.slice none 0 0) :: r, acc, ks, J => nilO lenM l r (acc ++ [.own (lenM + ks.length)]) (ks ++ [k]) J
  | _ :: l, x :: r, acc, ks, J => nilO lenM l r (acc ++ [x]) ks J
  | _, r, acc, ks, J => J (acc ++ r) ks
def evCall1 (Γ : Cons) (f : FuncId) (ags : List AV) (M : List Blk) (K : AV → List Blk → Prop) : Prop :=
  match Γ f with
  | some c => (fun ns => match okN M ns with
    | true => locAs M ns c.md ags fun ags' => c.ev ags' (locM ns M) fun av ML => K (ren2 false (backN ns.length M.length ns) av) (backM M ns ML)
    | false => False) (reach1 M (reach1 M (startN c.md ags [])))
  | none => False
def evCall (Γ : Cons) (f : FuncId) (ags : List AV) (M : List Blk) (K : AV → List Blk → Prop) : Prop :=
  match Γ f with
  | some c => nilO M.length c.md ags [] [] fun ags' ks => evCall1 Γ f ags' (M ++ nilsM ks) K
  | none => False

section
variable {w0 : Base P} {w : World} {F Hp : PH} {hs : List Value} {M : List Blk} {ns : List Nat}
theorem nrm0_ok {x : AV} {v : Value} (h : Rep F Hp hs x v) : Rep F Hp hs (nrm0 x) v := by
  unfold nrm0
  split
  · cases h.inv_tt; exact .val _
  · cases h.inv_ff; exact .val _
  · exact h
theorem nrm_ok {x : AV} {v : Value} (h : Rep F Hp hs x v) : Rep F Hp hs (nrm x) v := by
  unfold nrm
  split
  · obtain ⟨vs, rfl, g⟩ := h.inv_agg
    refine .agg _ _ (Reps.of_get (by rw [List.length_map]; exact g.length) fun i x u h1 h2 => ?_)
    obtain ⟨x', e1, e2⟩ := g.getv i u h2
    rw [List.getElem?_map, e1] at h1; cases h1
    exact nrm0_ok e2
  · exact nrm0_ok h
theorem apart_ok : ∀ {l : List Nat}, apart ns l = true → ∀ n ∈ l, n ∉ ns
  | [], _, n, hn => by simp at hn
  | m :: r, h, n, hn => by
    simp only [apart] at h
    split at h
    · cases h
    · rename_i hh
      rcases List.mem_cons.1 hn with rfl | hn
      · intro hc; rw [hasN_iff.2 hc] at hh; cases hh
      · exact apart_ok h n hn
/-- what may be read is lent -/
theorem lend_rd (hi : InvS w0 F Hp hs M w) {k : Kd} {x : AV} {xs : List (El k)} {v : Value} (h : rdL M k x = some xs) (hrc : rdC M x) (ha : ∀ n ∈ x.nmL, n ∉ ns) (hr : Rep F Hp hs x v) {hs' : List Value} :
    Rep (lend F hs M ns w) Hp hs' (.lt k xs) v := by
  have arr : ∀ {n : Nat} {k : Kd} {xs : List (El k)} {A : Option Addr} {cap : Nat} {v : Value}, n ∉ ns → M[n]? = some (.arr k xs) → hs[n]? = some v → BlkAt F Hp hs w v (.arr k xs) →
      ∃ A cap, v = .slice A xs.length cap ∧ xs.length ≤ cap ∧ (A = none → cap = 0) ∧ ∃ css : Nat → List Value, (∀ i x, xs[i]? = some x → Reps F Hp hs (enc k x) (css i)) ∧
        ∀ i x j c, xs[i]? = some x → (css i)[j]? = some c → ∃ b, A = some ⟨b, 0, none⟩ ∧ cellAt (lend F hs M ns w) ⟨b, i * ksz k + j, none⟩ = some c := by
    intro n k xs A cap v hn hm hv hb
    obtain ⟨A, cap, rfl, h1, h2, h3, h4⟩ := hb
    cases A with
    | none =>
      have h0 := h3 rfl
      have hx0 : xs = [] := List.length_eq_zero_iff.1 (by omega)
      refine ⟨none, cap, rfl, h1, h3, fun _ => [], fun i x hx => ?_, fun i x j c hx hc => ?_⟩
      · rw [hx0] at hx; simp at hx
      · simp at hc
    | some a =>
      obtain ⟨b, T, c, rfl, g1, g2, g3⟩ := h4 a rfl
      refine ⟨_, cap, rfl, h1, h3, fun i => elCells c (ksz k) i, g3, fun i x j u hx hu => ⟨b, rfl, ?_⟩⟩
      have hj := elCells_len hu
      rw [elCells_get hj] at hu
      have e := lend_at hi hn hm rfl hv rfl (ns := ns)
      rw [g1] at e
      simp only [cellAt, e]
      simpa using hu
  cases x with
  | sl k' xs' =>
    obtain ⟨e, rfl⟩ := castL_some h
    subst e
    exact (sl_free hr).sl_lt
  | lt k' xs' =>
    obtain ⟨e, rfl⟩ := castL_some h
    subst e
    cases hr with
    | lt _ _ A cap css h1 h2 h3 h4 h5 =>
      exact .lt _ _ A cap css h1 h2 h3 (fun i x hx => enc_free (h4 i x hx)) (fun i x j c hx hc => let ⟨a, e, g⟩ := h5 i x j c hx hc; ⟨a, e, rdAt.mono lend_le (PH.le.refl _) g⟩)
  | val u =>
    cases hr.inv_val
    unfold rdL at h
    split at h <;> first | (cases h; rename_i e; cases e; exact (Rep.nil_sl _).sl_lt) | (cases h; rename_i e; cases e; exact Rep.empty_lt _ _ _) | (exfalso; simp_all; done) | (simp at h)
  | own m =>
    cases hr with
    | own _ _ hn =>
      simp only [rdL] at h
      split at h
      · rename_i k' xs' hm
        obtain ⟨e, rfl⟩ := castL_some h
        subst e
        obtain ⟨A, cap, rfl, h1, h3, css, h4, h5⟩ := arr (A := none) (cap := 0) (ha m (by simp [AV.nmL])) hm hn (hi.blk m _ _ hm hn)
        exact .lt _ _ A cap css h1 trivial h3 (fun i x hx => enc_free (h4 i x hx)) (fun i x j c hx hc => let ⟨b, e, g⟩ := h5 i x j c hx hc; ⟨_, e, .inr (by rw [Addr.add_lit, Nat.zero_add]; exact g)⟩)
      · cases h
  | es m sz i len cap =>
    cases hr with
    | es _ _ _ _ _ b l c A c' hn hlc hc hA hA0 =>
      simp only [rdL] at h
      split at h
      · rename_i k' xs' hm
        split at h
        · rename_i hsz
          have hsz : sz = ksz k := Nat.eq_of_beq_eq_true hsz
          split at h
          · rename_i xs'' hcast
            obtain ⟨e, rfl⟩ := castL_some hcast
            subst e
            have hle := hrc m sz i len cap k' xs' rfl hm
            cases h
            obtain ⟨A', cap', hv, h1, h3, css, h4, h5⟩ := arr (A := none) (cap := 0) (ha m (by simp [AV.nmL])) hm hn (hi.blk m _ _ hm hn)
            have hlen : ((xs'.drop i).take len).length = len := by
              rw [List.length_take, List.length_drop]; omega
            have key : Rep (lend F hs M ns w) Hp hs' (.lt k' ((xs'.drop i).take len)) (.slice A ((xs'.drop i).take len).length c') := by
              refine .lt _ _ A c' (fun j => css (i + j)) (by rw [hlen]; exact hlc) trivial (fun e => absurd e hA0) ?_ ?_
              · intro j x hx
                have hj : j < len := by rw [← hlen]; exact (List.getElem?_eq_some_iff.1 hx).1
                rw [List.getElem?_take, if_pos hj, List.getElem?_drop] at hx
                exact enc_free (h4 _ _ hx)
              · intro j x q u hx hu
                have hj : j < len := by rw [← hlen]; exact (List.getElem?_eq_some_iff.1 hx).1
                rw [List.getElem?_take, if_pos hj, List.getElem?_drop] at hx
                obtain ⟨b', e, g⟩ := h5 _ _ q u hx hu
                cases hv
                cases e
                refine ⟨_, hA (by omega), .inr ?_⟩
                rw [Addr.add_lit, hsz]
                rw [show i * ksz k' + (j * ksz k' + q) = (i + j) * ksz k' + q by rw [Nat.add_mul]; omega]
                exact g
            rwa [hlen] at key
          · cases h
        · cases h
      · cases h
  | _ => simp [rdL] at h

theorem locR_ok (_hnd : ns.Nodup) (_hlt : ∀ n ∈ ns, n < M.length) {k : Kd} {x : AV} {J : AV → Prop} (h : locR M ns k x J) : ∃ x', J x' ∧ ∀ (w0 : Base P) F Hp hs w v, InvS w0 F Hp hs M w → Rep F Hp hs x v → Rep (lend F hs M ns w) Hp (locH ns hs) x' v := by
  unfold locR at h
  split at h
  · rename_i xs hx hap
    obtain ⟨hrc, hJ⟩ := rdG_ok h
    exact ⟨_, hJ, fun w0 F Hp hs w v hi hr => lend_rd hi hx hrc (apart_ok hap) hr⟩
  · exact h.elim
theorem locG_ok (hnd : ns.Nodup) (hlt : ∀ n ∈ ns, n < M.length) : ∀ (l : List (Option Kd)) (cs : List AV) (J : List AV → Prop), locG M ns l cs J → ∃ cs', J cs' ∧ ∀ (w0 : Base P) F Hp hs w vs, InvS w0 F Hp hs M w → Reps F Hp hs cs vs → Reps (lend F hs M ns w) Hp (locH ns hs) cs' vs
  | [], [], J, h => ⟨[], h, fun w0 F Hp hs w vs hi hr => by cases hr.inv_nil; exact .nil⟩
  | [], _ :: _, J, h => by simp [locG] at h
  | none :: l, [], J, h => by simp [locG] at h
  | some _ :: l, [], J, h => by simp [locG] at h
  | none :: l, x :: cs, J, h => by
    simp only [locG] at h
    split at h
    · rename_i hp
      obtain ⟨cs', hJ, hr'⟩ := locG_ok hnd hlt l cs _ h
      refine ⟨_, hJ, fun w0 F Hp hs w vs hi hr => ?_⟩
      obtain ⟨u, v', rfl, h1, h2⟩ := Reps.inv_cons hr
      exact .cons (nrm_ok (plain_free hp h1)) (hr' w0 F Hp hs w v' hi h2)
    · exact h.elim
  | some k :: l, x :: cs, J, h => by
    simp only [locG] at h
    obtain ⟨x', h', hx⟩ := locR_ok hnd hlt h
    obtain ⟨cs', hJ, hr'⟩ := locG_ok hnd hlt l cs _ h'
    refine ⟨_, hJ, fun w0 F Hp hs w vs hi hr => ?_⟩
    obtain ⟨u, v', rfl, h1, h2⟩ := Reps.inv_cons hr
    exact .cons (hx w0 F Hp hs w u hi h1) (hr' w0 F Hp hs w v' hi h2)
theorem locA_ok (hnd : ns.Nodup) (hlt : ∀ n ∈ ns, n < M.length) {md : Md} {x : AV} {J : AV → Prop} (h : locA M ns md x J) : ∃ x', J x' ∧ ∀ (w0 : Base P) F Hp hs w v, InvS w0 F Hp hs M w → Rep F Hp hs x v → Rep (lend F hs M ns w) Hp (locH ns hs) x' v := by
  unfold locA at h
  split at h
  · split at h
    · rename_i hp
      refine ⟨_, h, fun w0 F Hp hs w v hi hr => ?_⟩
      cases hr with | ifc _ _ _ hr => exact .ifc _ _ _ (plain1_free hp hr)
    · exact h.elim
  · split at h
    · rename_i hp
      exact ⟨_, h, fun w0 F Hp hs w v hi hr => nrm_ok (plain1_free hp hr)⟩
    · exact h.elim
  · exact locR_ok hnd hlt h
  · split at h
    · rename_i xs' hc
      obtain ⟨e, rfl⟩ := castL_some hc
      subst e
      exact ⟨_, h, fun w0 F Hp hs w v hi hr => sl_free hr⟩
    · exact h.elim
  · refine ⟨_, h, fun w0 F Hp hs w v hi hr => ?_⟩
    cases hr.inv_val; exact Rep.nil_sl _
  · exact h.elim
  · obtain ⟨cs', hJ, hr'⟩ := locG_ok hnd hlt _ _ _ h
    refine ⟨_, hJ, fun w0 F Hp hs w v hi hr => ?_⟩
    obtain ⟨vs, rfl, g⟩ := hr.inv_agg
    exact .agg _ _ (hr' w0 F Hp hs w vs hi g)
  · exact h.elim
  · exact ⟨_, h, fun w0 F Hp hs w v hi hr => ren1_ok (fun _ => lend_le) (leads_loc (fun n hn => by rw [hi.len]; exact hlt n hn)) hr⟩
  · exact ⟨_, h, fun w0 F Hp hs w v hi hr => ren1_ok (fun _ => lend_le) (leads_loc (fun n hn => by rw [hi.len]; exact hlt n hn)) hr⟩
theorem locAs_ok (hnd : ns.Nodup) (hlt : ∀ n ∈ ns, n < M.length) : ∀ (l : List Md) (ags : List AV) (J : List AV → Prop), locAs M ns l ags J → ∃ ags', J ags' ∧ ∀ (w0 : Base P) F Hp hs w vs, InvS w0 F Hp hs M w → Reps F Hp hs ags vs → Reps (lend F hs M ns w) Hp (locH ns hs) ags' vs
  | [], [], J, h => ⟨[], h, fun w0 F Hp hs w vs hi hr => by cases hr.inv_nil; exact .nil⟩
  | [], _ :: _, J, h => by simp [locAs] at h
  | _ :: l, [], J, h => by simp [locAs] at h
  | md :: l, x :: ags, J, h => by
    simp only [locAs] at h
    obtain ⟨x', h', hx⟩ := locA_ok hnd hlt h
    obtain ⟨cs', hJ, hr'⟩ := locAs_ok hnd hlt l ags _ h'
    refine ⟨_, hJ, fun w0 F Hp hs w vs hi hr => ?_⟩
    obtain ⟨u, v', rfl, h1, h2⟩ := Reps.inv_cons hr
    exact .cons (hx w0 F Hp hs w u hi h1) (hr' w0 F Hp hs w v' hi h2)

theorem evCall1_ok {Γ : Cons} (hΓ : ConsOk P Γ) {f : FuncId} {ags : List AV} {M : List Blk} {K : AV → List Blk → Prop} (h : evCall1 Γ f ags M K) : ∃ av M', K av M' ∧ ∀ (w0 : Base P) F Hp hs w vs, InvS w0 F Hp hs M w → Reps F Hp hs ags vs →
    Runs P f vs w fun v w' => ∃ Hp' ex, Hp.le Hp' ∧ InvS w0 F Hp' (hs ++ ex) M' w' ∧ Rep F Hp' (hs ++ ex) av v := by
  unfold evCall1 at h
  split at h
  · rename_i c hc
    generalize reach1 M (reach1 M (startN c.md ags [])) = ns at h
    split at h
    · rename_i hok
      obtain ⟨hnd, hlt⟩ := okN_ok hok
      obtain ⟨ags', hJ, has⟩ := locAs_ok hnd hlt _ _ _ h
      obtain ⟨av, ML, hK, hrun⟩ := hΓ f c hc _ _ _ hJ
      refine ⟨_, _, hK, fun w0 F Hp hs w vs hi hr => ?_⟩
      refine (hrun w0 _ Hp _ w vs (hi.lent hnd hlt) (has w0 F Hp hs w vs hi hr)).mono ?_
      rintro v w' ⟨Hp', hsL, hle, hag, hL, hrep⟩
      have hag' : ∀ i : Nat, i < ns.length → hsL[i]? = (locH ns hs)[i]? := fun i hi => hag i (by simpa [locM] using hi)
      refine ⟨Hp', hsL.drop ns.length, hle, hi.back hnd hlt hle hL hag', ?_⟩
      exact ren2_ok (fun h => by cases h) (leads_back hi.len hlt hag') hrep
    · exact h.elim
  · exact h.elim
/-- names for nothing -/
def nilV : Value := .slice none 0 0
theorem InvS.addNils : ∀ (l : List Kd) {hs : List Value} {M : List Blk}, InvS w0 F Hp hs M w → InvS w0 F Hp (hs ++ l.map fun _ => nilV) (M ++ nilsM l) w
  | [], hs, M, h => by simpa [nilsM] using h
  | k :: l, hs, M, h => by
    have h1 : InvS w0 F Hp (hs ++ [nilV]) (M ++ [.arr k []]) w := by
      refine h.add _ _ (fun _ _ => rfl) rfl rfl rfl rfl (fun b hb => by simp [idOf, nilV] at hb) ?_
      exact ⟨none, 0, rfl, by simp, by simp [maxLen], fun _ => rfl, fun a ha => by cases ha⟩
    have := InvS.addNils l h1
    simpa [nilsM] using this
theorem nilO_ok : ∀ (l : List Md) (r acc : List AV) (ks : List Kd) {J : List AV → List Kd → Prop}, nilO M.length l r acc ks J → ∃ ags' ks', J ags' ks' ∧ ∀ F Hp hs vs us, hs.length = M.length → Reps F Hp hs r vs →
    (∀ ks'', Reps F Hp (hs ++ (ks ++ ks'').map fun _ => nilV) acc us) → (∃ ks'', ks' = ks ++ ks'') ∧ Reps F Hp (hs ++ ks'.map fun _ => nilV) ags' (us ++ vs) := by
  intro l
  induction l with
  | nil =>
    intro r acc ks J h
    simp only [nilO] at h
    refine ⟨_, _, h, fun F Hp hs vs us hl hr ha => ⟨⟨[], by simp⟩, ?_⟩⟩
    have := ha []
    rw [List.append_nil] at this
    exact this.append (Reps.mono (PH.le.refl _) (PH.le.refl _) (HL.append _ _) hr)
  | cons md l ih =>
    intro r acc ks J h
    cases r with
    | nil =>
      have h' : J (acc ++ []) ks := by cases md <;> simpa [nilO] using h
      refine ⟨_, _, h', fun F Hp hs vs us hl hr ha => ⟨⟨[], by simp⟩, ?_⟩⟩
      cases hr.inv_nil
      have := ha []
      simpa using this
    | cons x r =>
      have gen : nilO M.length l r (acc ++ [x]) ks J → ∃ ags' ks', J ags' ks' ∧ ∀ F Hp hs vs us, hs.length = M.length → Reps F Hp hs (x :: r) vs →
          (∀ ks'', Reps F Hp (hs ++ (ks ++ ks'').map fun _ => nilV) acc us) → (∃ ks'', ks' = ks ++ ks'') ∧ Reps F Hp (hs ++ ks'.map fun _ => nilV) ags' (us ++ vs) := by
        intro h
        obtain ⟨ags', ks', hJ, hr'⟩ := ih r (acc ++ [x]) ks h
        refine ⟨ags', ks', hJ, fun F Hp hs vs us hl hr ha => ?_⟩
        obtain ⟨u, v', rfl, q1, q2⟩ := Reps.inv_cons hr
        obtain ⟨e1, e2⟩ := hr' F Hp hs v' (us ++ [u]) hl q2 (fun ks'' => (ha ks'').append (.cons (Rep.mono (PH.le.refl _) (PH.le.refl _) (HL.append _ _) q1) .nil))
        exact ⟨e1, by simpa using e2⟩
      by_cases hx : (∃ k, md = .o k) ∧ x = .val (.slice none 0 0)
      · obtain ⟨⟨k, rfl⟩, rfl⟩ := hx
        simp only [nilO] at h
        obtain ⟨ags', ks', hJ, hr'⟩ := ih r _ _ h
        refine ⟨ags', ks', hJ, fun F Hp hs vs us hl hr ha => ?_⟩
        obtain ⟨u, v', rfl, q1, q2⟩ := Reps.inv_cons hr
        have hu := q1.inv_val
        subst hu
        obtain ⟨⟨ks2, e0⟩, e2⟩ := hr' F Hp hs v' (us ++ [.slice none 0 0]) hl q2 (fun ks'' => by
          have h1 := ha (k :: ks'')
          rw [List.append_assoc, List.singleton_append]
          refine h1.append (.cons (.own _ _ ?_) .nil)
          rw [List.getElem?_append_right (by omega), hl, Nat.add_sub_cancel_left, List.getElem?_map, List.getElem?_append_right (Nat.le_refl _)]
          simp [nilV])
        exact ⟨⟨k :: ks2, by simp [e0]⟩, by simpa using e2⟩
      · apply gen
        cases md with
        | o k =>
          unfold nilO at h
          split at h
          · rename_i e1 e2
            exact absurd ⟨⟨_, rfl⟩, (List.cons.inj e2).1⟩ hx
          · rename_i e1 e2 e3
            cases e2; cases e3; exact h
          · rename_i h1 h2
            exact absurd rfl (h2 _ _ _ _ rfl)
        | _ => simp only [nilO] at h; exact h
theorem evCall_ok {Γ : Cons} (hΓ : ConsOk P Γ) {f : FuncId} {ags : List AV} {M : List Blk} {K : AV → List Blk → Prop} (h : evCall Γ f ags M K) : ∃ av M', K av M' ∧ ∀ (w0 : Base P) F Hp hs w vs, InvS w0 F Hp hs M w → Reps F Hp hs ags vs →
    Runs P f vs w fun v w' => ∃ Hp' ex, Hp.le Hp' ∧ InvS w0 F Hp' (hs ++ ex) M' w' ∧ Rep F Hp' (hs ++ ex) av v := by
  unfold evCall at h
  split at h
  · obtain ⟨ags', ks', h1, hr1⟩ := nilO_ok (M := M) _ _ _ _ h
    obtain ⟨av, M', hK, hrun⟩ := evCall1_ok hΓ h1
    refine ⟨av, M', hK, fun w0 F Hp hs w vs hi hr => ?_⟩
    obtain ⟨_, h2⟩ := hr1 F Hp hs vs [] hi.len hr (fun _ => .nil)
    refine (hrun w0 F Hp _ w vs (hi.addNils ks') (by simpa using h2)).mono ?_
    rintro v w' ⟨Hp', ex, q1, q2, q3⟩
    exact ⟨Hp', (ks'.map fun _ => nilV) ++ ex, q1, by simpa [List.append_assoc] using q2, by simpa [List.append_assoc] using q3⟩
  · exact h.elim
end
end Go.Sx
end
section
namespace Go.Sx
open Go
variable {P : Program} {ty : Ty} {Γ : Cons}

abbrev Mth := TypeId → Option (String × FuncId)
def MthOk (P : Program) (mth : Mth) : Prop := ∀ T nm f, mth T = some (nm, f) → ∀ w v args, (callMethod (.iface T v) nm args).run P w = (callFunc f (#[v] ++ args)).run P w
/-- what is given of a program -/
structure Env where
  ty : Ty
  Γ : Cons
  mth : Mth
structure EnvOk (P : Program) (E : Env) : Prop where
  ty : TyOk P E.ty
  Γ : ConsOk P E.Γ
  mth : MthOk P E.mth

/-! an operation, wherever it stands -/
def StepOk (P : Program) (o : Oper) (ρ : Operand → AV) (M : List Blk) (av : AV) (M' : List Blk) : Prop :=
  ∀ (w0 : Base P) F Hp hs w (a : Act) next Q, InvS w0 F Hp hs M w → (∀ x, Rep F Hp hs (ρ x) (a.eval x)) →
    (∀ Hp' ex w' v, Hp.le Hp' → InvS w0 F Hp' (hs ++ ex) M' w' → Rep F Hp' (hs ++ ex) av v → next (a.put o.dst v) w') → o.wp P a w next Q
theorem StepOk.of_run {o : Oper} {ρ : Operand → AV} {M : List Blk} {av : AV} {M' : List Blk}
    (h : ∀ (w0 : Base P) F Hp hs w (ev : Operand → Value), InvS w0 F Hp hs M w → (∀ x, Rep F Hp hs (ρ x) (ev x)) → ∃ v Hp' ex w', (execOp ev o).run P w = .ok (.value v) w' ∧ Hp.le Hp' ∧ InvS w0 F Hp' (hs ++ ex) M' w' ∧ Rep F Hp' (hs ++ ex) av v) : StepOk P o ρ M av M' := by
  intro w0 F Hp hs w a next Q hi hr hn
  obtain ⟨v, Hp', ex, w', h1, h2, h3, h4⟩ := h w0 F Hp hs w a.eval hi hr
  unfold Oper.wp
  rw [h1]
  exact hn Hp' ex w' v h2 h3 h4
theorem StepOk.of_ok {o : Oper} {ρ : Operand → AV} {M : List Blk} {av : AV} (h : OpOk P o ρ M av) : StepOk P o ρ M av M :=
  .of_run fun w0 F Hp hs w ev hi hr => let ⟨v, Hp', w', h1, h2, h3, h4⟩ := h w0 F Hp hs w ev hi hr; ⟨v, Hp', [], w', h1, h2, by simpa using h3, by simpa using h4⟩

def funcOf : AV → Option FuncId
  | .val (.func (.func f) a b) => match a.toList, b.toList with
    | [], [] => some f
    | _, _ => none
  | _ => none
def toSl (ty : Ty) (t : TypeId) : Bool :=
  match ty t with
  | some d => match d.k with
    | .slice _ => true
    | _ => false
  | none => false
def evW (E : Env) (op : Op) (ρ : Operand → AV) (M : List Blk) (K : AV → List Blk → Prop) : Prop :=
  match op with
  | .alloc t => evAlloc E.ty t M K
  | .box _ x => evBox (ρ x) M K
  | .store t a x => evStore E.ty t (ρ a) (ρ x) M K
  | .makeSlice t l c => evMake E.ty t (ρ l) (ρ c) M K
  | .buildSlice t len parts => evLit E.ty t len (parts.toList.map fun p => (p.1, ρ p.2)) M K
  | .range t x => evRange E.ty t (ρ x) M K
  | .next x b => evNext (ρ x) b M K
  | .makeInterface t x => evIface E.ty t (ρ x) fun av => K av M
  | .typeAssert x _ t ok => evAssert E.ty (ρ x) t ok fun av => K av M
  | .convert src dst x => match toSl E.ty dst with
    | true => evS2B E.ty src dst (ρ x) fun av => K av M
    | false => evR E.ty (.convert src dst x) ρ M fun av => K av M
  | .call { callee := .value g, args := xs, argTypes := _ } => match funcOf (ρ g) with
    | some f => evCall E.Γ f (xs.toList.map ρ) M K
    | none => False
  | .call { callee := .invoke g nm, args := xs, argTypes := _ } => match ρ g with
    | .ifc T a => match E.mth T with
      | some (nm', f) => match decide (nm = nm') with
        | true => evCall E.Γ f (a :: xs.toList.map ρ) M K
        | false => False
      | none => False
    | _ => False
  | .call { callee := .builtin .append, args := xs, argTypes := ts } => match ts.toList, xs.toList with
    | [t, t'], [s, x] => evAppend E.ty t t' (ρ s) (ρ x) M K
    | _, _ => False
  | .call { callee := .builtin .copy, args := xs, argTypes := ts } => match ts.toList, xs.toList with
    | [t, _], [d, s] => evCopy E.ty t (ρ d) (ρ s) M K
    | _, _ => False
  | op => evR E.ty op ρ M fun av => K av M

theorem reps_ev {F Hp : PH} {hs : List Value} {ρ : Operand → AV} {ev : Operand → Value} (hr : ∀ x, Rep F Hp hs (ρ x) (ev x)) (l : List Operand) : Reps F Hp hs (l.map ρ) (l.map ev) := by
  induction l with
  | nil => exact .nil
  | cons x l ih => exact .cons (hr x) ih
theorem arr_two {α : Type} {xs : Array α} {a b : α} (h : xs.toList = [a, b]) : xs = #[a, b] := by rw [← Array.toList_inj, h]
theorem wp_runs {o : Oper} {f : FuncId} {vs : List Value} {w w1 : World} {a : Act} {next : Act → World → Prop} {Q : Exit → Act → World → Prop} {R : Value → World → Prop}
    (he : (execOp a.eval o).run P w = (callFunc f vs.toArray).run P w) (h : Runs P f vs w R) (hn : ∀ v w', R v w' → next (a.put o.dst v) w') : o.wp P a w next Q := by
  obtain ⟨⟨fn, c, h1, h2, h3⟩, hc⟩ := h
  unfold Oper.wp
  rw [he, Go.MuLone.run_callFunc_enter h1 h2 h3, Oper.upon_enter]
  refine Calls.mono hc fun e w' hR => ?_
  cases e with
  | returned v => exact hn v w' hR
  | panicked c => exact hR.elim
  | outgrown => exact hR.elim

theorem evW_ok {E : Env} (hE : EnvOk P E) {o : Oper} {ρ : Operand → AV} {M : List Blk} {K : AV → List Blk → Prop} (h : evW E o.op ρ M K) : ∃ av M', K av M' ∧ StepOk P o ρ M av M' := by
  obtain ⟨dst, op, type, pos, after, guard⟩ := o
  simp only at h
  unfold evW at h
  split at h
  · rename_i t
    obtain ⟨av, M', hK, hr⟩ := evAlloc_ok hE.ty h
    refine ⟨av, M', hK, .of_run fun w0 F Hp hs w ev hi hv => ?_⟩
    obtain ⟨v, ex, w', h1, h2, h3⟩ := hr w0 F Hp hs w hi
    exact ⟨v, Hp, ex, w', by simp [execOp, h1], PH.le.refl _, h2, h3⟩
  · rename_i t x
    obtain ⟨av, M', hK, hr⟩ := evBox_ok h
    refine ⟨av, M', hK, .of_run fun w0 F Hp hs w ev hi hv => ?_⟩
    obtain ⟨v, ex, w', h1, h2, h3⟩ := hr P w0 F Hp hs w _ t hi (hv x)
    exact ⟨v, Hp, ex, w', by simp [execOp, h1], PH.le.refl _, h2, h3⟩
  · rename_i t x y
    obtain ⟨M', hK, hr⟩ := evStore_ok hE.ty h
    refine ⟨.top, M', hK, fun w0 F Hp hs w a next Q hi hv hn => ?_⟩
    obtain ⟨w', h1, h2⟩ := hr w0 F Hp hs w _ _ hi (hv x) (hv y)
    have he : (execOp a.eval ⟨dst, .store t x y, type, pos, after, guard⟩).run P w = .ok .skip w' := by simp [execOp, h1]
    unfold Oper.wp
    rw [he, Oper.upon_skip]
    exact hn Hp [] w' _ (PH.le.refl _) (by simpa using h2) (.top _)
  · rename_i t l c
    obtain ⟨av, M', hK, hr⟩ := evMake_ok hE.ty h
    refine ⟨av, M', hK, .of_run fun w0 F Hp hs w ev hi hv => ?_⟩
    obtain ⟨v, ex, w', h1, h2, h3⟩ := hr w0 F Hp hs w _ _ hi (hv l) (hv c)
    exact ⟨v, Hp, ex, w', by simp [execOp, h1], PH.le.refl _, h2, h3⟩
  · rename_i t len parts
    obtain ⟨av, M', hK, hr⟩ := evLit_ok hE.ty h
    refine ⟨av, M', hK, .of_run fun w0 F Hp hs w ev hi hv => ?_⟩
    obtain ⟨v, ex, w', h1, h2, h3⟩ := hr w0 F Hp hs w ev hi hv
    exact ⟨v, Hp, ex, w', by simp only [execOp, Sem.run_bind, h1, Result.andThen_ok, Sem.run_pure], PH.le.refl _, h2, h3⟩
  · rename_i t x
    obtain ⟨av, M', hK, hr⟩ := evRange_ok hE.ty h
    refine ⟨av, M', hK, .of_run fun w0 F Hp hs w ev hi hv => ?_⟩
    obtain ⟨v, ex, w', h1, h2, h3⟩ := hr w0 F Hp hs w _ hi (hv x)
    exact ⟨v, Hp, ex, w', by simp [execOp, h1], PH.le.refl _, h2, h3⟩
  · rename_i x b
    obtain ⟨av, M', hK, hr⟩ := evNext_ok h
    refine ⟨av, M', hK, .of_run fun w0 F Hp hs w ev hi hv => ?_⟩
    obtain ⟨v, w', h1, h2, h3⟩ := hr P w0 F Hp hs w _ type hi (hv x)
    exact ⟨v, Hp, [], w', by simp [execOp, h1], PH.le.refl _, by simpa using h2, by simpa using h3⟩
  · rename_i t x
    obtain ⟨av, hK, hr⟩ := evIface_ok hE.ty h
    refine ⟨av, M, hK, .of_ok (.pure fun w0 F Hp hs w ev hi hv => ?_)⟩
    obtain ⟨v, h1, h2⟩ := hr F Hp hs w _ (hv x)
    exact ⟨v, by simp [execOp, h1], h2⟩
  · rename_i x T t ok
    obtain ⟨av, hK, hr⟩ := evAssert_ok hE.ty h
    refine ⟨av, M, hK, .of_ok (.pure fun w0 F Hp hs w ev hi hv => ?_)⟩
    obtain ⟨v, h1, h2⟩ := hr F Hp hs w _ T (hv x)
    exact ⟨v, by simp [execOp, h1], h2⟩
  · rename_i src d x
    split at h
    · obtain ⟨av, hK, hr⟩ := evS2B_ok hE.ty h
      refine ⟨av, M, hK, .of_ok fun w0 F Hp hs w ev hi hv => ?_⟩
      obtain ⟨v, Hp', w', h1, h2, h3, h4⟩ := hr w0 F Hp hs M w _ hi (hv x)
      exact ⟨v, Hp', w', by simp [execOp, h1], h2, h3, h4⟩
    · obtain ⟨av, hav, hK⟩ := evR_ok (o := ⟨dst, .convert src d x, type, pos, after, guard⟩) hE.ty h
      exact ⟨av, M, hK, .of_ok hav⟩
  · rename_i g xs ts
    split at h
    · rename_i f hf
      obtain ⟨av, M', hK, hr⟩ := evCall_ok hE.Γ h
      refine ⟨av, M', hK, fun w0 F Hp hs w a next Q hi hv hn => ?_⟩
      have hrun := hr w0 F Hp hs w _ hi (reps_ev hv xs.toList)
      have hg := hv g
      unfold funcOf at hf
      split at hf
      · rename_i f' A B hρ
        split at hf
        · rename_i e1 e2
          cases hf
          have e1 : A = #[] := by rw [← Array.toList_inj, e1]
          have e2 : B = #[] := by rw [← Array.toList_inj, e2]
          subst e1 e2
          rw [hρ] at hg
          have hg := hg.inv_val
          refine wp_runs (w1 := w) ?_ hrun (fun v w' hR => ?_)
          · have e : (xs.toList.map a.eval).toArray = xs.map a.eval := by rw [← Array.toList_inj]; simp
            simp [execOp, resolve, hg, Deferred.ofValue, invoke, e]
          · obtain ⟨Hp', ex, q1, q2, q3⟩ := hR
            exact hn Hp' ex w' v q1 q2 q3
        · cases hf
      · cases hf
    · exact h.elim
  · rename_i g nm xs ts
    split at h
    · rename_i T x hρ
      split at h
      · rename_i nm' f hm
        split at h
        · rename_i hnm
          have hnm := of_decide_eq_true hnm
          subst hnm
          obtain ⟨av, M', hK, hr⟩ := evCall_ok hE.Γ h
          refine ⟨av, M', hK, fun w0 F Hp hs w a next Q hi hv hn => ?_⟩
          have hg := hv g
          rw [hρ] at hg
          have hg : ∃ v, a.eval g = .iface T v ∧ Rep F Hp hs x v := by
            generalize a.eval g = u at hg
            cases hg with | ifc _ _ v h => exact ⟨v, rfl, h⟩
          obtain ⟨v0, hg, hx⟩ := hg
          have hrun := hr w0 F Hp hs w _ hi (.cons hx (reps_ev hv xs.toList))
          refine wp_runs (w1 := w) ?_ hrun (fun v w' hR => ?_)
          · have e : (v0 :: xs.toList.map a.eval).toArray = #[v0] ++ xs.map a.eval := by rw [← Array.toList_inj]; simp
            rw [e, ← hE.mth T nm f hm]
            have e2 : ((#[Value.iface T v0] ++ xs.map a.eval).extract 1 (#[Value.iface T v0] ++ xs.map a.eval).size) = xs.map a.eval := by
              apply Array.ext'
              rw [Array.toList_extract]
              simp [List.take_of_length_le]
            have e3 : (#[Value.iface T v0] ++ xs.map a.eval)[0]? = some (Value.iface T v0) := by
              rw [← Array.getElem?_toList]; simp
            simp only [execOp, resolve, hg, Sem.run_bind, Sem.run_pure, Result.andThen_ok, invoke]
            rw [e2, e3]
          · obtain ⟨Hp', ex, q1, q2, q3⟩ := hR
            exact hn Hp' ex w' v q1 q2 q3
        · exact h.elim
      · exact h.elim
    · exact h.elim
  · rename_i xs ts
    split at h
    · rename_i t t' s x hts hxs
      obtain ⟨av, M', hK, hr⟩ := evAppend_ok hE.ty h
      refine ⟨av, M', hK, .of_run fun w0 F Hp hs w ev hi hv => ?_⟩
      obtain ⟨v, ex, w', h1, h2, h3⟩ := hr w0 F Hp hs w _ _ type hi (hv s) (hv x)
      cases arr_two hts
      cases arr_two hxs
      exact ⟨v, Hp, ex, w', by simp [execOp, resolve, invoke, builtin, h1], PH.le.refl _, h2, h3⟩
    · exact h.elim
  · rename_i xs ts
    split at h
    · rename_i t t' d s hts hxs
      obtain ⟨av, M', hK, hr⟩ := evCopy_ok hE.ty h
      refine ⟨av, M', hK, .of_run fun w0 F Hp hs w ev hi hv => ?_⟩
      obtain ⟨v, w', h1, h2, h3⟩ := hr w0 F Hp hs w _ _ t' type hi (hv d) (hv s)
      cases arr_two hts
      cases arr_two hxs
      exact ⟨v, Hp, [], w', by simp [execOp, resolve, invoke, builtin, h1], PH.le.refl _, by simpa using h2, by simpa using h3⟩
    · exact h.elim
  · obtain ⟨av, hav, hK⟩ := evR_ok (o := ⟨dst, op, type, pos, after, guard⟩) hE.ty h
    exact ⟨av, M, hK, .of_ok hav⟩
end Go.Sx
end
