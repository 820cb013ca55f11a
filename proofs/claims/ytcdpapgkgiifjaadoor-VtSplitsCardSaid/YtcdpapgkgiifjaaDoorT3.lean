/- A law is proved out of the functions' contracts. Conditions: none beyond those of the given statement. -/
import Derived.Test.YtcdpapgkgiifjaaDoorT2
import Derived.Test.YtcdpapgkgiifjaaDoorT1
set_option linter.unusedVariables false
set_option linter.unusedSimpArgs false
section
namespace Go.Cx
open Go Go.Sx Go.Proofs
set_option maxRecDepth 100000
set_option maxHeartbeats 0
/-! vt.Feed -/
theorem p0_ok {n : Int} (h : n = 0 ∨ n = 1 ∨ n = 3 ∨ n = 4 ∨ n = 5 ∨ n = 6) : StOk (P0 n) := by
  refine ⟨⟨by show 0 ≤ n; omega, by show n ≤ 8; omega⟩, fun e => absurd rfl e, ⟨fun e => by have : n = 2 := e; omega, fun _ _ => rfl, Nat.zero_le 3, fun j hj => absurd hj (Nat.not_lt_zero j)⟩, Nat.zero_le 16, fun e => absurd rfl e, fun v hv => by simp at hv, fun e => absurd rfl e, Nat.zero_le 64, fun j hj => absurd hj (Nat.not_lt_zero j)⟩
theorem bt_one {b : Int} (h0 : 0 ≤ b) (h1 : b < 256) : bt (strBytes [b]) 0 = b := by
  unfold bt strBytes
  simp
  omega
theorem strBytes_ne (b : Int) : strBytes [b] ≠ E0 := by
  intro e
  have := congrArg ByteArray.size e
  rw [strBytes_size] at this
  exact Nat.one_ne_zero this
theorem bt_snoc {s : ByteArray} {b : Int} (h0 : 0 ≤ b) (h1 : b < 256) {j : Nat} (hj : j < s.size + 1) : bt (s ++ strBytes [b]) j = if j < s.size then bt s j else b := by
  by_cases h : j < s.size
  · rw [if_pos h, bt_app_lt _ _ h]
  · have : j = s.size := by omega
    subst this
    rw [if_neg h, bt_app_one s h0 h1]
theorem app_ne {s : ByteArray} {b : Int} : s ++ strBytes [b] ≠ E0 := by
  intro e
  have := congrArg ByteArray.size e
  rw [ByteArray.size_append, strBytes_size] at this
  exact Nat.succ_ne_zero _ this
theorem E0_size {s : ByteArray} : s = E0 ↔ s.size = 0 := size_zero
theorem esc_stok {p : Parse} {b : Int} (h : StOk p) (hs : p.state = 1) (h0 : 0 ≤ b) (h1 : b < 256) : StOk (escS p b).1 := by
  unfold escS
  repeat' split
  all_goals first
    | exact h
    | exact p0_ok (by omega)
    | skip
  refine ⟨by dsimp only; omega, fun e => absurd rfl e, ⟨fun _ => strBytes_ne b, fun e => absurd rfl e, ?_, fun j hj => ?_⟩, by simp, fun e => absurd rfl e, fun v hv => by simp at hv, fun e => absurd rfl e, Nat.zero_le 64, fun j hj => absurd hj (Nat.not_lt_zero j)⟩
  · rw [strBytes_size]; show 1 ≤ 3; decide
  · rw [strBytes_size] at hj
    have : j = 0 := by simpa using hj
    subst this
    rw [bt_one h0 h1]; left; omega
theorem inter_stok {p : Parse} {b : Int} (h : StOk p) (hs : p.state = 2) (h0 : 0 ≤ b) (h1 : b < 256) : StOk (interS p b).1 := by
  unfold interS
  repeat' split
  all_goals first
    | exact h
    | exact p0_ok (by omega)
    | skip
  obtain ⟨e1, e2, e3, e4, e5, e6, e7, e8, e9⟩ := h
  refine ⟨e1, e2, ⟨fun _ => app_ne, fun e => absurd hs e, ?_, fun j hj => ?_⟩, e4, e5, e6, e7, e8, e9⟩
  · rw [ByteArray.size_append, strBytes_size]; simp; omega
  · rw [ByteArray.size_append, strBytes_size] at hj
    rw [bt_snoc h0 h1 hj]
    split
    · rename_i hj'; exact e3.2.2.2 j hj'
    · left; omega
theorem skip_stok {p : Parse} {b : Int} (h : StOk p) : StOk (skipS p b).1 := by
  unfold skipS
  repeat' split
  all_goals first
    | exact h
    | exact p0_ok (by omega)
theorem ground_stok {p : Parse} {b : Int} (h : StOk p) (hs : p.state = 0) : StOk (groundS p b).1 := by
  obtain ⟨e1, e2, e3, e4, e5, e6, e7, e8, e9⟩ := h
  unfold groundS
  repeat' split
  · exact ⟨e1, fun e => absurd rfl e, e3, e4, e5, e6, e7, e8, e9⟩
  · exact ⟨e1, fun e => absurd rfl e, e3, e4, e5, e6, e7, e8, e9⟩
  · refine ⟨e1, fun e => ⟨hs, ?_⟩, e3, e4, e5, e6, e7, e8, e9⟩
    rcases stepS_may p.part b with h | h
    · exact absurd h e
    · exact h
theorem param_stok {p : Parse} {b : Int} (h : StOk p) (hs : p.state = 3) (h0 : 48 ≤ b) (h1 : b ≤ 63) : StOk (paramS p b) := by
  obtain ⟨e1, e2, e3, e4, e5, e6, e7, e8, e9⟩ := h
  obtain ⟨q1, q2, q3⟩ := par1_ok (b := b) e4 e6
  unfold paramS
  repeat' split
  · exact p0_ok (by omega)
  · refine ⟨e1, e2, e3, by rw [List.length_set]; exact q1, fun _ => hs, fun v hv => ?_, e7, e8, e9⟩
    rcases List.mem_or_eq_of_mem_set hv with hv | rfl
    · exact q2 v hv
    · have hp1 := q3 (by omega)
      have := q2 _ (List.mem_of_getElem? (gt_lt (k := .int .i64) (xs := par1 p b) (i := (par1 p b).length - 1) (by omega)))
      omega
  · exact p0_ok (by omega)
  · refine ⟨e1, e2, e3, by simp; omega, fun _ => hs, fun v hv => ?_, e7, e8, e9⟩
    rcases List.mem_append.1 hv with hv | hv
    · exact q2 v hv
    · simp at hv; omega
  · exact p0_ok (by omega)
  · refine ⟨e1, e2, ⟨fun e => by dsimp only at e; omega, fun _ e => absurd hs e, by rw [strBytes_size]; show 1 ≤ 3; decide, fun j hj => ?_⟩, q1, fun _ => hs, q2, e7, e8, e9⟩
    rw [strBytes_size] at hj
    have : j = 0 := by simpa using hj
    subst this
    rw [bt_one (by omega) (by omega)]
    right
    exact ⟨rfl, hs, by omega, by omega⟩
theorem csi_stok {p : Parse} {b : Int} (h : StOk p) (hs : p.state = 3) (h0 : 0 ≤ b) (h1 : b < 256) : StOk (csiS p b).1 := by
  unfold csiS
  repeat' split
  all_goals first
    | exact h
    | exact p0_ok (by omega)
    | exact param_stok h hs (by omega) (by omega)
    | skip
  obtain ⟨e1, e2, e3, e4, e5, e6, e7, e8, e9⟩ := h
  refine ⟨e1, e2, ⟨fun _ => app_ne, fun _ e => absurd hs e, ?_, fun j hj => ?_⟩, e4, e5, e6, e7, e8, e9⟩
  · rw [ByteArray.size_append, strBytes_size]
    have := e3.2.2.1
    simp; omega
  · rw [ByteArray.size_append, strBytes_size] at hj
    rw [bt_snoc h0 h1 hj]
    split
    · rename_i hj'; exact e3.2.2.2 j hj'
    · left; omega
theorem takeE_stok {b : Int} (h0 : 0 ≤ b) (h1 : b < 256) : StOk (takeE b).1 := by
  unfold takeE
  repeat' split
  · exact p0_ok (by omega)
  · exact p0_ok (by omega)
  · exact esc_stok (p0_ok (by omega)) rfl h0 h1
theorem text_stok {p : Parse} {b : Int} (h : StOk p) (hs : 5 ≤ p.state) (h0 : 0 ≤ b) (h1 : b < 256) : StOk (textS p b).1 := by
  have hh := h
  obtain ⟨e1, e2, e3, e4, e5, e6, e7, e8, e9⟩ := h
  have hpart : p.part = E0 := Classical.byContradiction fun e => by have := (e2 e).1; omega
  have hint : ∀ st' : Int, 5 ≤ st' → InterOk st' p.inter := fun st' hst => by
    have hi := e3.2.1 (by omega) (by omega)
    rw [hi]
    exact ⟨fun e => by omega, fun _ _ => rfl, by decide, fun j hj => absurd hj (by simp [ByteArray.size])⟩
  have hpar : p.params.length = 0 := Classical.byContradiction fun e => by have := e5 e; omega
  unfold textS
  repeat' split
  all_goals first
    | exact hh
    | exact takeE_stok h0 h1
    | exact p0_ok (by omega)
    | skip
  · exact ⟨by dsimp only; omega, fun e => absurd hpart e, hint 7 (by omega), e4, fun e => absurd hpar e, e6, fun _ => .inr rfl, e8, e9⟩
  · refine ⟨by dsimp only; omega, fun e => absurd hpart e, hint 8 (by omega), e4, fun e => absurd hpar e, e6, fun e => ?_, e8, e9⟩
    exfalso
    have := e7 e
    omega
  · refine ⟨e1, e2, e3, e4, e5, e6, fun _ => .inl (by dsimp only; omega), ?_, fun j hj => ?_⟩
    · rw [ByteArray.size_append, strBytes_size]; simp; omega
    · rw [ByteArray.size_append, strBytes_size] at hj
      dsimp only
      rw [bt_snoc h0 h1 hj]
      split
      · rename_i hj'; exact e9 j hj'
      · omega
theorem take_stok {p : Parse} {b : Int} (h : StOk p) (h0 : 0 ≤ b) (h1 : b < 256) : StOk (takeS p b).1 := by
  have hst := h.1
  unfold takeS
  repeat' split
  all_goals first
    | exact p0_ok (by omega)
    | exact ground_stok h (by assumption)
    | exact esc_stok h (by assumption) h0 h1
    | exact inter_stok h (by assumption) h0 h1
    | exact csi_stok h (by assumption) h0 h1
    | exact skip_stok h
    | exact text_stok h (by omega) h0 h1
def runV : Parse × List Vev → List Int → Parse × List Vev
  | st, [] => st
  | st, b :: r => runV ((takeS st.1 b).1, st.2 ++ (takeS st.1 b).2) r
def toldV : Vev → Ev
  | .printed r => ⟨1, r, [], E0, E0⟩
  | .control c => ⟨2, IntKind.i64.wrap c, [], E0, E0⟩
  | .sequence false b _ it => ⟨3, IntKind.i64.wrap b, [], it, E0⟩
  | .sequence true b ps it => ⟨4, IntKind.i64.wrap b, ps, it, E0⟩
  | .osc s => ⟨5, 0, [], E0, s⟩
end Go.Cx
end
section
namespace Go.Cx
open Go Go.Sx Go.Proofs
set_option maxRecDepth 100000
set_option maxHeartbeats 0
def scloneCon : Con := ⟨[.v], fun ags M K => match ags, M with
  | [.val (.string s)], M => s.size ≤ 281474976710656 ∧ K (.s s) M
  | _, _ => False⟩
theorem sclone_run (s : ByteArray) (w : World) (h : s.size ≤ 281474976710656) : Calls Tryd.prog 65 [Value.string s].toArray w fun e w' => ∃ v, e = .returned v ∧ RowKit.Below w.heap.size w w' ∧ v = .string s := by
  refine Calls.mono (Tryd.stringslite_Clone s w h) ?_
  rintro e w' ⟨rfl, hb⟩
  exact ⟨_, rfl, hb, rfl⟩
theorem sclone_ok : ConOk Tryd.prog 65 scloneCon := con_of_calls Tryd.func65 rfl rfl scloneCon (by
  intro ags M K h
  unfold scloneCon at h
  simp only at h
  split at h
  · rename_i M' s
    refine ⟨_, h.2, fun w0 F Hp hs w vs hi hr => ?_⟩
    obtain ⟨u, v', rfl, h1, h2⟩ := Reps.inv_cons hr
    have e2 := h2.inv_nil
    have e1 := h1.inv_val
    subst e1 e2
    refine Calls.mono (sclone_run s w h.1) ?_
    rintro e w' ⟨v, rfl, hb, rfl⟩
    exact ⟨_, rfl, hb, .val _⟩
  · exact h.elim)
noncomputable def e_sclone2 : List (FuncId × Con) := (65, scloneCon) :: e_cpN
theorem e_sclone2_ok : ConsOk Tryd.prog (look e_sclone2) := cons_cons e_cpN_ok sclone_ok
noncomputable def scloCon : Con := ⟨[.v], fun ags M K => evFn (env e_sclone2) Tryd.f45 (cfg1) ags M K⟩
theorem sclo_ok : ConOk Tryd.prog 45 scloCon := fn_ok (env_ok e_sclone2_ok) mixed Tryd.func45 rfl scloCon (cfg1) (fun _ _ _ h => h)
noncomputable def e_sclo : List (FuncId × Con) := (45, scloCon) :: e_sclone2
theorem e_sclo_ok : ConsOk Tryd.prog (look e_sclo) := cons_cons e_sclone2_ok sclo_ok
noncomputable def toldPCon : Con := ⟨[.v], fun ags M K => evFn (env e_sclo) Tryd.f95 (cfg1) ags M K⟩
theorem toldP_ok : ConOk Tryd.prog 95 toldPCon := fn_ok (env_ok e_sclo_ok) mixed Tryd.func95 rfl toldPCon (cfg1) (fun _ _ _ h => h)
noncomputable def e_toldP : List (FuncId × Con) := (95, toldPCon) :: e_sclo
theorem e_toldP_ok : ConsOk Tryd.prog (look e_toldP) := cons_cons e_sclo_ok toldP_ok
noncomputable def toldCCon : Con := ⟨[.v], fun ags M K => evFn (env e_toldP) Tryd.f94 (cfg1) ags M K⟩
theorem toldC_ok : ConOk Tryd.prog 94 toldCCon := fn_ok (env_ok e_toldP_ok) mixed Tryd.func94 rfl toldCCon (cfg1) (fun _ _ _ h => h)
noncomputable def e_toldC : List (FuncId × Con) := (94, toldCCon) :: e_toldP
theorem e_toldC_ok : ConsOk Tryd.prog (look e_toldC) := cons_cons e_toldP_ok toldC_ok
noncomputable def toldSCon : Con := ⟨[.v], fun ags M K => evFn (env e_toldC) Tryd.f93 (cfg1) ags M K⟩
theorem toldS_ok : ConOk Tryd.prog 93 toldSCon := fn_ok (env_ok e_toldC_ok) mixed Tryd.func93 rfl toldSCon (cfg1) (fun _ _ _ h => h)
noncomputable def e_toldS : List (FuncId × Con) := (93, toldSCon) :: e_toldC
theorem e_toldS_ok : ConsOk Tryd.prog (look e_toldS) := cons_cons e_toldC_ok toldS_ok
noncomputable def toldOCon : Con := ⟨[.v], fun ags M K => evFn (env e_toldS) Tryd.f96 (cfg1) ags M K⟩
theorem toldO_ok : ConOk Tryd.prog 96 toldOCon := fn_ok (env_ok e_toldS_ok) mixed Tryd.func96 rfl toldOCon (cfg1) (fun _ _ _ h => h)
noncomputable def e_toldO : List (FuncId × Con) := (96, toldOCon) :: e_toldS
theorem e_toldO_ok : ConsOk Tryd.prog (look e_toldO) := cons_cons e_toldS_ok toldO_ok
def vevOk : Vev → Prop
  | .sequence _ _ ps _ => ps.length ≤ 16
  | _ => True
def feedV (p : Parse) (s : ByteArray) : Parse × List Vev := runV (p, []) (bytesL s)
noncomputable def feedR (p : Parse) (s : ByteArray) : Parse × List Ev × Int :=
  if pb (StOk p) = true then (if s.size ≤ 4000 then ((feedV p s).1, (feedV p s).2.map toldV, 0) else (P0 0, [], 2)) else (P0 0, [], 1)
def rtF : Lr := ⟨Parse × List Ev × Int, fun r => [.own 0, .agg [.i r.1.state, .s r.1.part, .own 1, .s r.1.inter, .s r.1.text], .i r.2.2], fun r => [.arr .ev r.2.1, ints r.1.params]⟩
def zp : List AV := [.i 0, .s E0, .val (.slice none 0 0), .s E0, .s E0]
def feLp1 (p : Parse) (s : ByteArray) : Lp := { X := Nat × Parse × List Vev, fr := fun x => [(1, .s s), (4, .val (.slice none 0 0)), (5, .ptr 0 0), (6, .i 0), (7, .ptr 1 0), (31, .i s.size), (32, .i x.1)], M := fun x => [.flat zp, .flat [.i x.2.1.state, .s x.2.1.part, .own 2, .s x.2.1.inter, .s x.2.1.text, .own 3], ints x.2.1.params, vevs x.2.2], inv := fun x => x.1 ≤ s.size ∧ runV x.2 ((bytesL s).drop x.1) = feedV p s ∧ StOk x.2.1 ∧ x.2.2.length ≤ 2 * x.1 ∧ ∀ e ∈ x.2.2, vevOk e, mu := fun x => s.size - x.1 }
def feLp2 (p : Parse) (s : ByteArray) : Lp := { X := Nat × Parse × List Vev × List Ev, fr := fun x => [(4, .own 4), (5, .ptr 0 0), (6, .i 0), (7, .ptr 1 0), (44, .own 3), (45, .i x.2.2.1.length), (46, .i x.1)], M := fun x => [.flat zp, .flat [.i x.2.1.state, .s x.2.1.part, .own 2, .s x.2.1.inter, .s x.2.1.text, .own 3], ints x.2.1.params, vevs x.2.2.1, .arr .ev x.2.2.2], inv := fun x => feedV p s = (x.2.1, x.2.2.1) ∧ x.1 ≤ x.2.2.1.length ∧ x.2.2.2 = (x.2.2.1.take x.1).map toldV, mu := fun x => x.2.2.1.length - x.1 }
theorem partS_size {s : ByteArray} (h : partS s = true) : s.size ≤ 3 := by
  have h := of_decide_eq_true h
  have h2 := h.2.1
  unfold needS at h2
  repeat' split at h2
  all_goals omega
theorem pr1_len (l : List Int) : (pr1 l).length ≤ l.length := by
  unfold pr1
  rw [List.length_map]
  exact List.length_filter_le _ _
theorem flushE_len (p : Parse) : (flushE p).length ≤ 1 := by
  unfold flushE
  split <;> simp
theorem takeS_len (p : Parse) (b : Int) : (takeS p b).2.length ≤ 2 := by
  have hf := flushE_len p
  have hg : (groundS p b).2.length ≤ 2 := by
    have := pr1_len (stepS p.part b).1
    have := (stepS_len p.part b).1
    unfold groundS
    repeat' split
    all_goals simp only [List.length_append, List.length_cons, List.length_nil]
    all_goals omega
  have he : ∀ p, (escS p b).2.length ≤ 2 := by
    intro p
    unfold escS
    repeat' split
    all_goals simp
  have hi : (interS p b).2.length ≤ 2 := by
    unfold interS
    repeat' split
    all_goals simp
  have hc : (csiS p b).2.length ≤ 2 := by
    unfold csiS
    repeat' split
    all_goals simp
  have hs : (skipS p b).2.length ≤ 2 := by
    unfold skipS
    repeat' split
    all_goals simp
  have ht : (textS p b).2.length ≤ 2 := by
    have := he (P0 1)
    unfold textS takeE
    repeat' split
    all_goals first
      | exact this
      | simp
  unfold takeS
  repeat' split
  all_goals first
    | assumption
    | (simp only [List.length_append, List.length_cons, List.length_nil]; omega)
    | omega
    | exact he p
theorem takeS_vev {p : Parse} (h : StOk p) (b : Int) : ∀ e ∈ (takeS p b).2, vevOk e := by
  have hp : p.params.length ≤ 16 := h.2.2.2.1
  have hf : ∀ e ∈ flushE p, vevOk e := by
    intro e he
    unfold flushE at he
    split at he <;> simp at he
    subst he; trivial
  have hpr : ∀ l, ∀ e ∈ pr1 l, vevOk e := by
    intro l e he
    simp only [pr1, List.mem_map] at he
    obtain ⟨r, _, rfl⟩ := he; trivial
  have hg : ∀ e ∈ (groundS p b).2, vevOk e := by
    unfold groundS
    repeat' split
    all_goals intro e he
    · rcases List.mem_append.1 he with he | he
      · exact hf e he
      · simp at he; subst he; trivial
    · exact hf e he
    · exact hpr _ e he
  have he : ∀ p, ∀ e ∈ (escS p b).2, vevOk e := by
    intro p
    unfold escS
    repeat' split
    all_goals (intro e he; simp at he; try (subst he; first | trivial | exact Nat.zero_le 16))
  have hi : ∀ e ∈ (interS p b).2, vevOk e := by
    unfold interS
    repeat' split
    all_goals (intro e he; simp at he; try (subst he; first | trivial | exact Nat.zero_le 16))
  have hc : ∀ e ∈ (csiS p b).2, vevOk e := by
    unfold csiS
    repeat' split
    all_goals (intro e he; simp at he; try (subst he; first | trivial | exact hp))
  have hs : ∀ e ∈ (skipS p b).2, vevOk e := by
    unfold skipS
    repeat' split
    all_goals (intro e he; simp at he; try (subst he; trivial))
  have hE : ∀ e ∈ (takeE b).2, vevOk e := by
    unfold takeE
    repeat' split
    · intro e he; simp at he; subst he; trivial
    · intro e he; simp at he
    · exact he _
  have ht : ∀ e ∈ (textS p b).2, vevOk e := by
    unfold textS
    repeat' split
    all_goals first
      | exact hE
      | (intro e he; simp at he; try (subst he; trivial))
  unfold takeS
  repeat' split
  all_goals first
    | assumption
    | exact he p
    | skip
  intro e he
  rcases List.mem_append.1 he with he | he
  · exact hf e he
  · simp at he; subst he; trivial
noncomputable def feedCon : Con := ⟨[.g [none, none, some (.int .i64), none, none], .v], fun ags M K => match ags, M with
  | [.agg [.val (.int .i64 st), .val (.string pt), .lt (.int .i64) ps, .val (.string it), .val (.string tx)], .val (.string s)], [] => (it.size ≤ 4000000000000000000 ∧ tx.size ≤ 4000000000000000000 ∧ ps.length ≤ 4000000000000000000 ∧ s.size ≤ 4000000000000000000) ∧ ∀ r : Parse × List Ev × Int, r = feedR ⟨st, pt, ps, it, tx⟩ s → K (.tup [.own 0, .agg [.i r.1.state, .s r.1.part, .own 1, .s r.1.inter, .s r.1.text], .i r.2.2]) [.arr .ev r.2.1, ints r.1.params]
  | _, _ => False⟩
theorem feed_vc (st : Int) (pt : ByteArray) (ps : List Int) (it tx s : ByteArray) (K : AV → List Blk → Prop) : (evFn (env e_toldO) Tryd.f25 ({ cfg1 with rt := some rtF, fz := [58], lp := fun r => match r with | 8 => some (feLp1 ⟨st, pt, ps, it, tx⟩ s) | 13 => some (feLp2 ⟨st, pt, ps, it, tx⟩ s) | _ => none }) [.agg [.i st, .s pt, .lt (.int .i64) ps, .s it, .s tx], .s s] [] K) = (
  (it.size ≤ 4000000000000000000 ∧ tx.size ≤ 4000000000000000000 ∧ ps.length ≤ 4000000000000000000) ∧ ∀ (r : Bool), r = pb (StOk (Parse.mk st pt ps it tx)) → ((!r) = true →
  ∃ (x : Parse × List Ev × Int), [] = x.snd.fst ∧ [] = x.fst.params ∧ (0 : Int) = x.fst.state ∧ ByteArray.mk #[] = x.fst.part ∧ ByteArray.mk #[] = x.fst.inter ∧
  ByteArray.mk #[] = x.fst.text ∧ (1 : Int) = x.snd.snd ∧ Leaf rtF K x) ∧ ((!r) = false → (decide ((4000 : Int) < (↑s.size : Int)) = true → ∃ (x : Parse × List Ev × Int),
  [] = x.snd.fst ∧ [] = x.fst.params ∧ (0 : Int) = x.fst.state ∧ ByteArray.mk #[] = x.fst.part ∧ ByteArray.mk #[] = x.fst.inter ∧ ByteArray.mk #[] = x.fst.text ∧ (2 : Int)
  = x.snd.snd ∧ Leaf rtF K x) ∧ (decide ((4000 : Int) < (↑s.size : Int)) = false → ps.length ≤ 100000000 ∧ ∃ (x0 : Nat × Parse × List Vev), (x0.fst ≤ s.size ∧ runV x0.snd
  (List.drop x0.fst (bytesL s)) = feedV (Parse.mk st pt ps it tx) s ∧ StOk x0.snd.fst ∧ x0.snd.snd.length ≤ 2 * x0.fst ∧ ∀ (e : Vev), e ∈ x0.snd.snd → vevOk e) ∧ (0 : Int)
  = (0 : Int) ∧ ByteArray.mk #[] = E0 ∧ Value.slice none 0 0 = Value.slice none 0 0 ∧ ByteArray.mk #[] = E0 ∧ ByteArray.mk #[] = E0 ∧ st = x0.snd.fst.state ∧ pt =
  x0.snd.fst.part ∧ it = x0.snd.fst.inter ∧ tx = x0.snd.fst.text ∧ ps = x0.snd.fst.params ∧ [] = x0.snd.snd ∧ s = s ∧ Value.slice none 0 0 = Value.slice none 0 0 ∧ 0 = 0 ∧
  (0 : Int) = (0 : Int) ∧ 0 = 0 ∧ (↑s.size : Int) = (↑s.size : Int) ∧ (0 : Int) = (↑x0.fst : Int) ∧ ∀ (x : Nat × Parse × List Vev), (x.fst ≤ s.size ∧ runV x.snd (List.drop
  x.fst (bytesL s)) = feedV (Parse.mk st pt ps it tx) s ∧ StOk x.snd.fst ∧ x.snd.snd.length ≤ 2 * x.fst ∧ ∀ (e : Vev), e ∈ x.snd.snd → vevOk e) → (decide ((↑x.fst : Int) <
  (↑s.size : Int)) = true → ((0 : Int) ≤ (↑x.fst : Int) ∧ (↑x.fst : Int) < (↑s.size : Int)) ∧ (x.snd.snd.length ≤ 90000 ∧ (0 : Int) ≤ x.snd.fst.state ∧ x.snd.fst.state ≤ (8
  : Int) ∧ (0 : Int) ≤ bt s (↑x.fst : Int).toNat ∧ bt s (↑x.fst : Int).toNat < (256 : Int) ∧ x.snd.fst.text.size ≤ 1000 ∧ x.snd.fst.part.size ≤ 100 ∧ x.snd.fst.inter.size ≤
  100 ∧ x.snd.fst.params.length ≤ 16 ∧ ∀ (v : El (Kd.int IntKind.i64)), v ∈ x.snd.fst.params → (-1 : El (Kd.int IntKind.i64)) ≤ v ∧ v ≤ (9999 : El (Kd.int IntKind.i64))) ∧
  ∀ (r : Parse × List Vev), r = ((takeS (Parse.mk x.snd.fst.state x.snd.fst.part x.snd.fst.params x.snd.fst.inter x.snd.fst.text) (bt s (↑x.fst : Int).toNat)).fst,
  x.snd.snd ++ (takeS (Parse.mk x.snd.fst.state x.snd.fst.part x.snd.fst.params x.snd.fst.inter x.snd.fst.text) (bt s (↑x.fst : Int).toNat)).snd) → ∃ (x' : Nat × Parse ×
  List Vev), ((x'.fst ≤ s.size ∧ runV x'.snd (List.drop x'.fst (bytesL s)) = feedV (Parse.mk st pt ps it tx) s ∧ StOk x'.snd.fst ∧ x'.snd.snd.length ≤ 2 * x'.fst ∧ ∀ (e :
  Vev), e ∈ x'.snd.snd → vevOk e) ∧ s.size - x'.fst < s.size - x.fst) ∧ (0 : Int) = (0 : Int) ∧ E0 = E0 ∧ Value.slice none 0 0 = Value.slice none 0 0 ∧ E0 = E0 ∧ E0 = E0 ∧
  r.fst.state = x'.snd.fst.state ∧ r.fst.part = x'.snd.fst.part ∧ r.fst.inter = x'.snd.fst.inter ∧ r.fst.text = x'.snd.fst.text ∧ r.fst.params = x'.snd.fst.params ∧ r.snd =
  x'.snd.snd ∧ s = s ∧ Value.slice none 0 0 = Value.slice none 0 0 ∧ 0 = 0 ∧ (0 : Int) = (0 : Int) ∧ 0 = 0 ∧ (↑s.size : Int) = (↑s.size : Int) ∧ IntKind.i64.wrap ((↑x.fst :
  Int) + (1 : Int)) = (↑x'.fst : Int) ∧ True) ∧ (decide ((↑x.fst : Int) < (↑s.size : Int)) = false → ∃ (x0 : Nat × Parse × List Vev × List Ev), (feedV (Parse.mk st pt ps it
  tx) s = (x0.snd.fst, x0.snd.snd.fst) ∧ x0.fst ≤ x0.snd.snd.fst.length ∧ x0.snd.snd.snd = List.map toldV (List.take x0.fst x0.snd.snd.fst)) ∧ (0 : Int) = (0 : Int) ∧ E0 =
  E0 ∧ Value.slice none 0 0 = Value.slice none 0 0 ∧ E0 = E0 ∧ E0 = E0 ∧ x.snd.fst.state = x0.snd.fst.state ∧ x.snd.fst.part = x0.snd.fst.part ∧ x.snd.fst.inter =
  x0.snd.fst.inter ∧ x.snd.fst.text = x0.snd.fst.text ∧ x.snd.fst.params = x0.snd.fst.params ∧ x.snd.snd = x0.snd.snd.fst ∧ [] = x0.snd.snd.snd ∧ 0 = 0 ∧ (0 : Int) = (0 :
  Int) ∧ 0 = 0 ∧ (↑x.snd.snd.length : Int) = (↑x0.snd.snd.fst.length : Int) ∧ (0 : Int) = (↑x0.fst : Int) ∧ ∀ (x : Nat × Parse × List Vev × List Ev), feedV (Parse.mk st pt
  ps it tx) s = (x.snd.fst, x.snd.snd.fst) ∧ x.fst ≤ x.snd.snd.fst.length ∧ x.snd.snd.snd = List.map toldV (List.take x.fst x.snd.snd.fst) → (decide ((↑x.fst : Int) <
  (↑x.snd.snd.fst.length : Int)) = true → ((0 : Int) ≤ (↑x.fst : Int) ∧ (↑x.fst : Int) < (↑x.snd.snd.fst.length : Int)) ∧ (↑x.fst : Int).toNat < x.snd.snd.fst.length ∧ (∀
  (r : Int), gt (Kd.vev 100 95 76 102) x.snd.snd.fst (↑x.fst : Int).toNat = Vev.printed r → (x.snd.snd.snd.length + [Ev.mk (1 : Int) r [] (ByteArray.mk #[]) (ByteArray.mk
  #[])].length ≤ 140737488355328 ∧ (x.snd.snd.snd.length + [Ev.mk (1 : Int) r [] (ByteArray.mk #[]) (ByteArray.mk #[])].length) * 72 ≤ 140737488355328) ∧ ∃ (x' : Nat ×
  Parse × List Vev × List Ev), ((feedV (Parse.mk st pt ps it tx) s = (x'.snd.fst, x'.snd.snd.fst) ∧ x'.fst ≤ x'.snd.snd.fst.length ∧ x'.snd.snd.snd = List.map toldV
  (List.take x'.fst x'.snd.snd.fst)) ∧ x'.snd.snd.fst.length - x'.fst < x.snd.snd.fst.length - x.fst) ∧ (0 : Int) = (0 : Int) ∧ E0 = E0 ∧ Value.slice none 0 0 = Value.slice
  none 0 0 ∧ E0 = E0 ∧ E0 = E0 ∧ x.snd.fst.state = x'.snd.fst.state ∧ x.snd.fst.part = x'.snd.fst.part ∧ x.snd.fst.inter = x'.snd.fst.inter ∧ x.snd.fst.text =
  x'.snd.fst.text ∧ x.snd.fst.params = x'.snd.fst.params ∧ x.snd.snd.fst = x'.snd.snd.fst ∧ x.snd.snd.snd ++ [Ev.mk (1 : Int) r [] (ByteArray.mk #[]) (ByteArray.mk #[])] =
  x'.snd.snd.snd ∧ 0 = 0 ∧ (0 : Int) = (0 : Int) ∧ 0 = 0 ∧ (↑x.snd.snd.fst.length : Int) = (↑x'.snd.snd.fst.length : Int) ∧ IntKind.i64.wrap ((↑x.fst : Int) + (1 : Int)) =
  (↑x'.fst : Int) ∧ True) ∧ (∀ (x_1 : Int), gt (Kd.vev 100 95 76 102) x.snd.snd.fst (↑x.fst : Int).toNat = Vev.control x_1 → (x.snd.snd.snd.length + [Ev.mk (2 : Int)
  (IntKind.i64.wrap x_1) [] (ByteArray.mk #[]) (ByteArray.mk #[])].length ≤ 140737488355328 ∧ (x.snd.snd.snd.length + [Ev.mk (2 : Int) (IntKind.i64.wrap x_1) []
  (ByteArray.mk #[]) (ByteArray.mk #[])].length) * 72 ≤ 140737488355328) ∧ ∃ (x' : Nat × Parse × List Vev × List Ev), ((feedV (Parse.mk st pt ps it tx) s = (x'.snd.fst,
  x'.snd.snd.fst) ∧ x'.fst ≤ x'.snd.snd.fst.length ∧ x'.snd.snd.snd = List.map toldV (List.take x'.fst x'.snd.snd.fst)) ∧ x'.snd.snd.fst.length - x'.fst <
  x.snd.snd.fst.length - x.fst) ∧ (0 : Int) = (0 : Int) ∧ E0 = E0 ∧ Value.slice none 0 0 = Value.slice none 0 0 ∧ E0 = E0 ∧ E0 = E0 ∧ x.snd.fst.state = x'.snd.fst.state ∧
  x.snd.fst.part = x'.snd.fst.part ∧ x.snd.fst.inter = x'.snd.fst.inter ∧ x.snd.fst.text = x'.snd.fst.text ∧ x.snd.fst.params = x'.snd.fst.params ∧ x.snd.snd.fst =
  x'.snd.snd.fst ∧ x.snd.snd.snd ++ [Ev.mk (2 : Int) (IntKind.i64.wrap x_1) [] (ByteArray.mk #[]) (ByteArray.mk #[])] = x'.snd.snd.snd ∧ 0 = 0 ∧ (0 : Int) = (0 : Int) ∧ 0 =
  0 ∧ (↑x.snd.snd.fst.length : Int) = (↑x'.snd.snd.fst.length : Int) ∧ IntKind.i64.wrap ((↑x.fst : Int) + (1 : Int)) = (↑x'.fst : Int) ∧ True) ∧ (∀ (csi : Bool) (last :
  Int) (ps_1 : List Int) (inter : ByteArray), gt (Kd.vev 100 95 76 102) x.snd.snd.fst (↑x.fst : Int).toNat = Vev.sequence csi last ps_1 inter → ps_1.length ≤ 100000000 ∧
  ((!csi) = true → (x.snd.snd.snd.length + [Ev.mk (3 : Int) (IntKind.i64.wrap last) [] inter (ByteArray.mk #[])].length ≤ 140737488355328 ∧ (x.snd.snd.snd.length + [Ev.mk
  (3 : Int) (IntKind.i64.wrap last) [] inter (ByteArray.mk #[])].length) * 72 ≤ 140737488355328) ∧ ∃ (x' : Nat × Parse × List Vev × List Ev), ((feedV (Parse.mk st pt ps it
  tx) s = (x'.snd.fst, x'.snd.snd.fst) ∧ x'.fst ≤ x'.snd.snd.fst.length ∧ x'.snd.snd.snd = List.map toldV (List.take x'.fst x'.snd.snd.fst)) ∧ x'.snd.snd.fst.length -
  x'.fst < x.snd.snd.fst.length - x.fst) ∧ (0 : Int) = (0 : Int) ∧ E0 = E0 ∧ Value.slice none 0 0 = Value.slice none 0 0 ∧ E0 = E0 ∧ E0 = E0 ∧ x.snd.fst.state =
  x'.snd.fst.state ∧ x.snd.fst.part = x'.snd.fst.part ∧ x.snd.fst.inter = x'.snd.fst.inter ∧ x.snd.fst.text = x'.snd.fst.text ∧ x.snd.fst.params = x'.snd.fst.params ∧
  x.snd.snd.fst = x'.snd.snd.fst ∧ x.snd.snd.snd ++ [Ev.mk (3 : Int) (IntKind.i64.wrap last) [] inter (ByteArray.mk #[])] = x'.snd.snd.snd ∧ 0 = 0 ∧ (0 : Int) = (0 : Int) ∧
  0 = 0 ∧ (↑x.snd.snd.fst.length : Int) = (↑x'.snd.snd.fst.length : Int) ∧ IntKind.i64.wrap ((↑x.fst : Int) + (1 : Int)) = (↑x'.fst : Int) ∧ True) ∧ ((!csi) = false →
  (x.snd.snd.snd.length + [Ev.mk (4 : Int) (IntKind.i64.wrap last) ps_1 inter (ByteArray.mk #[])].length ≤ 140737488355328 ∧ (x.snd.snd.snd.length + [Ev.mk (4 : Int)
  (IntKind.i64.wrap last) ps_1 inter (ByteArray.mk #[])].length) * 72 ≤ 140737488355328) ∧ ∃ (x' : Nat × Parse × List Vev × List Ev), ((feedV (Parse.mk st pt ps it tx) s =
  (x'.snd.fst, x'.snd.snd.fst) ∧ x'.fst ≤ x'.snd.snd.fst.length ∧ x'.snd.snd.snd = List.map toldV (List.take x'.fst x'.snd.snd.fst)) ∧ x'.snd.snd.fst.length - x'.fst <
  x.snd.snd.fst.length - x.fst) ∧ (0 : Int) = (0 : Int) ∧ E0 = E0 ∧ Value.slice none 0 0 = Value.slice none 0 0 ∧ E0 = E0 ∧ E0 = E0 ∧ x.snd.fst.state = x'.snd.fst.state ∧
  x.snd.fst.part = x'.snd.fst.part ∧ x.snd.fst.inter = x'.snd.fst.inter ∧ x.snd.fst.text = x'.snd.fst.text ∧ x.snd.fst.params = x'.snd.fst.params ∧ x.snd.snd.fst =
  x'.snd.snd.fst ∧ x.snd.snd.snd ++ [Ev.mk (4 : Int) (IntKind.i64.wrap last) ps_1 inter (ByteArray.mk #[])] = x'.snd.snd.snd ∧ 0 = 0 ∧ (0 : Int) = (0 : Int) ∧ 0 = 0 ∧
  (↑x.snd.snd.fst.length : Int) = (↑x'.snd.snd.fst.length : Int) ∧ IntKind.i64.wrap ((↑x.fst : Int) + (1 : Int)) = (↑x'.fst : Int) ∧ True)) ∧ ∀ (s_1 : ByteArray), gt
  (Kd.vev 100 95 76 102) x.snd.snd.fst (↑x.fst : Int).toNat = Vev.osc s_1 → (x.snd.snd.snd.length + [Ev.mk (5 : Int) (0 : Int) [] (ByteArray.mk #[]) s_1].length ≤
  140737488355328 ∧ (x.snd.snd.snd.length + [Ev.mk (5 : Int) (0 : Int) [] (ByteArray.mk #[]) s_1].length) * 72 ≤ 140737488355328) ∧ ∃ (x' : Nat × Parse × List Vev × List
  Ev), ((feedV (Parse.mk st pt ps it tx) s = (x'.snd.fst, x'.snd.snd.fst) ∧ x'.fst ≤ x'.snd.snd.fst.length ∧ x'.snd.snd.snd = List.map toldV (List.take x'.fst
  x'.snd.snd.fst)) ∧ x'.snd.snd.fst.length - x'.fst < x.snd.snd.fst.length - x.fst) ∧ (0 : Int) = (0 : Int) ∧ E0 = E0 ∧ Value.slice none 0 0 = Value.slice none 0 0 ∧ E0 =
  E0 ∧ E0 = E0 ∧ x.snd.fst.state = x'.snd.fst.state ∧ x.snd.fst.part = x'.snd.fst.part ∧ x.snd.fst.inter = x'.snd.fst.inter ∧ x.snd.fst.text = x'.snd.fst.text ∧
  x.snd.fst.params = x'.snd.fst.params ∧ x.snd.snd.fst = x'.snd.snd.fst ∧ x.snd.snd.snd ++ [Ev.mk (5 : Int) (0 : Int) [] (ByteArray.mk #[]) s_1] = x'.snd.snd.snd ∧ 0 = 0 ∧
  (0 : Int) = (0 : Int) ∧ 0 = 0 ∧ (↑x.snd.snd.fst.length : Int) = (↑x'.snd.snd.fst.length : Int) ∧ IntKind.i64.wrap ((↑x.fst : Int) + (1 : Int)) = (↑x'.fst : Int) ∧ True) ∧
  (decide ((↑x.fst : Int) < (↑x.snd.snd.fst.length : Int)) = false → x.snd.fst.text.size ≤ 281474976710656 ∧ ∃ (x_1 : Parse × List Ev × Int), x.snd.snd.snd = x_1.snd.fst ∧
  x.snd.fst.params = x_1.fst.params ∧ x.snd.fst.state = x_1.fst.state ∧ x.snd.fst.part = x_1.fst.part ∧ x.snd.fst.inter = x_1.fst.inter ∧ x.snd.fst.text = x_1.fst.text ∧ (0
  : Int) = x_1.snd.snd ∧ Leaf rtF K x_1))))) := by kernel_rfl

theorem feed_ok : ConOk Tryd.prog 25 feedCon := fn_ok2 (env_ok e_toldO_ok) mixed Tryd.func25 rfl feedCon (by
  intro ags M K h
  unfold feedCon at h
  simp only at h
  split at h
  · rename_i st pt ps it tx s
    refine ⟨{ cfg1 with rt := some rtF, fz := [58], lp := fun r => match r with | 8 => some (feLp1 ⟨st, pt, ps, it, tx⟩ s) | 13 => some (feLp2 ⟨st, pt, ps, it, tx⟩ s) | _ => none }, ?_⟩
    show evFn (env e_toldO) _ _ [.agg [.i st, .s pt, .lt (.int .i64) ps, .s it, .s tx], .s s] [] _
    rw [feed_vc]
    obtain ⟨hp, h⟩ := h
    obtain ⟨p1, p2, p3, p4⟩ := hp
    refine ⟨⟨p1, p2, p3⟩, fun r hr => ⟨fun h1 => ⟨(P0 0, [], 1), rfl, rfl, rfl, rfl, rfl, rfl, rfl, h _ ?_⟩, fun h1 => ⟨fun h2 => ⟨(P0 0, [], 2), rfl, rfl, rfl, rfl, rfl, rfl, rfl, h _ ?_⟩, fun h2 => ?_⟩⟩⟩
    · subst hr
      simp only [strBytes_size, ByteArray.size_append, List.length_append, List.length_cons, List.length_nil, Nat.zero_add, Bool.and_eq_true, Bool.or_eq_true, Bool.and_eq_false_iff, Bool.or_eq_false_iff, decide_eq_true_eq, decide_eq_false_iff_not, Bool.not_eq_true', Bool.not_eq_eq_eq_not, Bool.not_true, Bool.not_false, true_and, and_true, Int.toNat_natCast, not_true_eq_false, not_false_eq_true, ne_eq, eq_self] at h1
      rw [feedR, if_neg (by rw [h1]; exact Bool.false_ne_true)]
    · subst hr
      simp only [strBytes_size, ByteArray.size_append, List.length_append, List.length_cons, List.length_nil, Nat.zero_add, Bool.and_eq_true, Bool.or_eq_true, Bool.and_eq_false_iff, Bool.or_eq_false_iff, decide_eq_true_eq, decide_eq_false_iff_not, Bool.not_eq_true', Bool.not_eq_eq_eq_not, Bool.not_true, Bool.not_false, true_and, and_true, Int.toNat_natCast, not_true_eq_false, not_false_eq_true, ne_eq, eq_self] at h1 h2
      rw [feedR, if_pos h1, if_neg (by omega)]
    · subst hr
      simp only [strBytes_size, ByteArray.size_append, List.length_append, List.length_cons, List.length_nil, Nat.zero_add, Bool.and_eq_true, Bool.or_eq_true, Bool.and_eq_false_iff, Bool.or_eq_false_iff, decide_eq_true_eq, decide_eq_false_iff_not, Bool.not_eq_true', Bool.not_eq_eq_eq_not, Bool.not_true, Bool.not_false, true_and, and_true, Int.toNat_natCast, not_true_eq_false, not_false_eq_true, ne_eq, eq_self] at h1 h2
      have hst := pb_true.1 h1
      have hif : feedR ⟨st, pt, ps, it, tx⟩ s = ((feedV ⟨st, pt, ps, it, tx⟩ s).1, (feedV ⟨st, pt, ps, it, tx⟩ s).2.map toldV, 0) := by rw [feedR, if_pos h1, if_pos (by omega)]
      rw [hif] at h
      have hb4 : ps.length ≤ 16 := hst.2.2.2.1
      refine ⟨by omega, (0, ⟨st, pt, ps, it, tx⟩, []), ⟨Nat.zero_le _, rfl, hst, Nat.zero_le _, fun e he => by simp at he⟩, ?_⟩
      repeat (refine ⟨rfl, ?_⟩)
      rintro ⟨i, q, evs⟩ ⟨q1, q2, q3, q4, q5⟩
      dsimp only at q1 q2 q3 q4 q5 ⊢
      refine ⟨fun h3 => ?_, fun h3 => ?_⟩
      · simp only [strBytes_size, ByteArray.size_append, List.length_append, List.length_cons, List.length_nil, Nat.zero_add, Bool.and_eq_true, Bool.or_eq_true, Bool.and_eq_false_iff, Bool.or_eq_false_iff, decide_eq_true_eq, decide_eq_false_iff_not, Bool.not_eq_true', Bool.not_eq_eq_eq_not, Bool.not_true, Bool.not_false, true_and, and_true, Int.toNat_natCast, not_true_eq_false, not_false_eq_true, ne_eq, eq_self] at h3
        have hi : i < s.size := by omega
        have hbr := bt_range s i
        have q3' := q3
        obtain ⟨e1, e2, e3, e4, e5, e6, e7, e8, e9⟩ := q3
        rw [Int.toNat_natCast]
        refine ⟨⟨by omega, by omega⟩, ⟨by omega, e1.1, e1.2, hbr.1, hbr.2, by omega, ?_, by have := e3.2.2.1; omega, e4, e6⟩, fun r hr => ⟨(i + 1, r), ⟨⟨hi, ?_, ?_, ?_, ?_⟩, ?_⟩, ?_⟩⟩
        · by_cases hpe : q.part = E0
          · rw [hpe]; exact Nat.zero_le _
          · have := partS_size (e2 hpe).2
            omega
        · subst hr
          rw [← q2, drop_bytes hi, runV]
        · subst hr
          exact take_stok ⟨e1, e2, e3, e4, e5, e6, e7, e8, e9⟩ hbr.1 hbr.2
        · subst hr
          have := takeS_len q (bt s i)
          show (evs ++ (takeS q (bt s i)).2).length ≤ 2 * (i + 1)
          rw [List.length_append]
          omega
        · subst hr
          intro e he
          rcases List.mem_append.1 he with he | he
          · exact q5 e he
          · exact takeS_vev q3' _ e he
        · show s.size - (i + 1) < s.size - i
          omega
        · repeat (refine ⟨rfl, ?_⟩)
          exact ⟨by rw [w64 (by omega)]; show (i : Int) + 1 = ((i + 1 : Nat) : Int); omega, trivial⟩
      · simp only [strBytes_size, ByteArray.size_append, List.length_append, List.length_cons, List.length_nil, Nat.zero_add, Bool.and_eq_true, Bool.or_eq_true, Bool.and_eq_false_iff, Bool.or_eq_false_iff, decide_eq_true_eq, decide_eq_false_iff_not, Bool.not_eq_true', Bool.not_eq_eq_eq_not, Bool.not_true, Bool.not_false, true_and, and_true, Int.toNat_natCast, not_true_eq_false, not_false_eq_true, ne_eq, eq_self] at h3
        have hi : i = s.size := by omega
        subst hi
        rw [List.drop_of_length_le (by rw [bytesL_len]; exact Nat.le_refl _)] at q2
        have q2 : (q, evs) = feedV ⟨st, pt, ps, it, tx⟩ s := q2
        rw [← q2] at h
        refine ⟨(0, q, evs, []), ⟨q2.symm, Nat.zero_le _, rfl⟩, ?_⟩
        repeat (refine ⟨rfl, ?_⟩)
        rintro ⟨j, q', evs', l⟩ ⟨r1, r2, r3⟩
        dsimp only at r1 r2 r3 ⊢
        rw [← q2] at r1
        cases r1
        have hev : evs.length ≤ 8000 := by omega
        have hl : l.length = j := by rw [r3, List.length_map, List.length_take]; omega
        refine ⟨fun h4 => ?_, fun h4 => ?_⟩
        · simp only [strBytes_size, ByteArray.size_append, List.length_append, List.length_cons, List.length_nil, Nat.zero_add, Bool.and_eq_true, Bool.or_eq_true, Bool.and_eq_false_iff, Bool.or_eq_false_iff, decide_eq_true_eq, decide_eq_false_iff_not, Bool.not_eq_true', Bool.not_eq_eq_eq_not, Bool.not_true, Bool.not_false, true_and, and_true, Int.toNat_natCast, not_true_eq_false, not_false_eq_true, ne_eq, eq_self] at h4
          have hj : j < evs.length := by omega
          have hw : IntKind.i64.wrap ((j : Int) + 1) = ((j + 1 : Nat) : Int) := by rw [w64 (by omega)]; omega
          have hg := gt_lt (k := VK) hj
          have hsn : ∀ x, x = gt VK evs j → l ++ [toldV x] = (evs.take (j + 1)).map toldV := by
            intro x hx
            rw [List.take_add_one, hg, List.map_append, r3, hx]; rfl
          have hstep : ∀ e, e = toldV (gt VK evs j) → l ++ [e] = (evs.take (j + 1)).map toldV := by
            intro e he
            rw [he]; exact hsn _ rfl
          rw [Int.toNat_natCast, hw]
          have b1 : ∀ e : Ev, l.length + [e].length ≤ 140737488355328 ∧ (l.length + [e].length) * 72 ≤ 140737488355328 := fun e => ⟨by simp; omega, by simp; omega⟩
          have fin : ∀ e, e = toldV (gt VK evs j) → ∃ x' : Nat × Parse × List Vev × List Ev, ((feedV ⟨st, pt, ps, it, tx⟩ s = (x'.2.1, x'.2.2.1) ∧ x'.1 ≤ x'.2.2.1.length ∧ x'.2.2.2 = (x'.2.2.1.take x'.1).map toldV) ∧ x'.2.2.1.length - x'.1 < evs.length - j) ∧ x' = (j + 1, q, evs, l ++ [e]) := by
            intro e he
            exact ⟨(j + 1, q, evs, l ++ [e]), ⟨⟨q2.symm, hj, hstep e he⟩, by show evs.length - (j + 1) < evs.length - j; omega⟩, rfl⟩
          refine ⟨⟨by omega, by omega⟩, hj, fun r hr => ⟨b1 _, ?_⟩, fun r hr => ⟨b1 _, ?_⟩, fun c la ps' it' hr => ⟨?_, fun h5 => ⟨b1 _, ?_⟩, fun h5 => ⟨b1 _, ?_⟩⟩, fun r hr => ⟨b1 _, ?_⟩⟩
          · obtain ⟨x', g1, rfl⟩ := fin _ (by rw [hr])
            refine ⟨_, g1, ?_⟩
            repeat (refine ⟨rfl, ?_⟩)
            trivial
          · obtain ⟨x', g1, rfl⟩ := fin _ (by rw [hr])
            refine ⟨_, g1, ?_⟩
            repeat (refine ⟨rfl, ?_⟩)
            trivial
          · have := q5 _ (List.mem_of_getElem? hg)
            rw [hr] at this
            have this : ps'.length ≤ 16 := this
            omega
          · simp only [strBytes_size, ByteArray.size_append, List.length_append, List.length_cons, List.length_nil, Nat.zero_add, Bool.and_eq_true, Bool.or_eq_true, Bool.and_eq_false_iff, Bool.or_eq_false_iff, decide_eq_true_eq, decide_eq_false_iff_not, Bool.not_eq_true', Bool.not_eq_eq_eq_not, Bool.not_true, Bool.not_false, true_and, and_true, Int.toNat_natCast, not_true_eq_false, not_false_eq_true, ne_eq, eq_self] at h5
            subst h5
            obtain ⟨x', g1, rfl⟩ := fin _ (by rw [hr])
            refine ⟨_, g1, ?_⟩
            repeat (refine ⟨rfl, ?_⟩)
            trivial
          · simp only [strBytes_size, ByteArray.size_append, List.length_append, List.length_cons, List.length_nil, Nat.zero_add, Bool.and_eq_true, Bool.or_eq_true, Bool.and_eq_false_iff, Bool.or_eq_false_iff, decide_eq_true_eq, decide_eq_false_iff_not, Bool.not_eq_true', Bool.not_eq_eq_eq_not, Bool.not_true, Bool.not_false, true_and, and_true, Int.toNat_natCast, not_true_eq_false, not_false_eq_true, ne_eq, eq_self] at h5
            subst h5
            obtain ⟨x', g1, rfl⟩ := fin _ (by rw [hr])
            refine ⟨_, g1, ?_⟩
            repeat (refine ⟨rfl, ?_⟩)
            trivial
          · obtain ⟨x', g1, rfl⟩ := fin _ (by rw [hr])
            refine ⟨_, g1, ?_⟩
            repeat (refine ⟨rfl, ?_⟩)
            trivial
        · simp only [strBytes_size, ByteArray.size_append, List.length_append, List.length_cons, List.length_nil, Nat.zero_add, Bool.and_eq_true, Bool.or_eq_true, Bool.and_eq_false_iff, Bool.or_eq_false_iff, decide_eq_true_eq, decide_eq_false_iff_not, Bool.not_eq_true', Bool.not_eq_eq_eq_not, Bool.not_true, Bool.not_false, true_and, and_true, Int.toNat_natCast, not_true_eq_false, not_false_eq_true, ne_eq, eq_self] at h4
          have hj : j = evs.length := by omega
          subst hj
          rw [List.take_length] at r3
          refine ⟨by have := q3.2.2.2.2.2.2.2.1; omega, (q, l, 0), rfl, rfl, rfl, rfl, rfl, rfl, rfl, h _ ?_⟩
          rw [r3]
  · exact h.elim)
noncomputable def e_feed : List (FuncId × Con) := (25, feedCon) :: e_toldO
theorem e_feed_ok : ConsOk Tryd.prog (look e_feed) := cons_cons e_toldO_ok feed_ok
end Go.Cx
end
section
namespace Go.Cx
open Go Go.Sx Go.Proofs
set_option maxRecDepth 100000
set_option maxHeartbeats 0
/-! utf: byte after byte -/
def flushP (pt : ByteArray) : List Int × Int := if pt = E0 then ([], 0) else if partS pt = true then ([65533], 0) else ([], 1)
noncomputable def nextP (pt : ByteArray) (b : Int) : List Int × ByteArray × Int := if pt ≠ E0 ∧ partS pt = false then ([], E0, 1) else ((stepS pt b).1, (stepS pt b).2, 0)
def rtFl : Lr := ⟨List Int × Int, fun r => [.own 0, .i r.2], fun r => [ints r.1]⟩
def rtNx : Lr := ⟨List Int × ByteArray × Int, fun r => [.own 0, .s r.2.1, .i r.2.2], fun r => [ints r.1]⟩
noncomputable def uflushCon : Con := ⟨[.v], fun ags M K => match ags, M with
  | [.val (.string pt)], [] => (True) ∧ ∀ r : List Int × Int, r = flushP pt → K (.tup [.own 0, .i r.2]) [ints r.1]
  | _, _ => False⟩
theorem uflush_vc (pt : ByteArray) (K : AV → List Blk → Prop) : (evFn (env l20) Tryd.f20 ({ cfg1 with rt := some rtFl }) [.s pt] [] K) = (
  (decide (pt = ByteArray.mk #[]) = true → ∃ (x : List Int × Int), [] = x.fst ∧ (0 : Int) = x.snd ∧ Leaf rtFl K x) ∧ (decide (pt = ByteArray.mk #[]) = false → ∀ (r : Bool),
  r = partS pt → ((!r) = true → ∃ (x : List Int × Int), [] = x.fst ∧ (1 : Int) = x.snd ∧ Leaf rtFl K x) ∧ ((!r) = false → ∃ (x : List Int × Int), [(65533 : Int)] = x.fst ∧
  (0 : Int) = x.snd ∧ Leaf rtFl K x))) := by kernel_rfl

theorem uflush_ok : ConOk Tryd.prog 20 uflushCon := fn_ok2 (env_ok l20_ok) mixed Tryd.func20 rfl uflushCon (by
  intro ags M K h
  unfold uflushCon at h
  simp only at h
  split at h
  · rename_i pt
    refine ⟨{ cfg1 with rt := some rtFl }, ?_⟩
    show evFn (env l20) _ _ [.s pt] [] _
    rw [uflush_vc]
    obtain ⟨hp, h⟩ := h
    refine ⟨fun h1 => ⟨([], 0), rfl, rfl, h _ ?_⟩, fun h1 r hr => ⟨fun h2 => ⟨([], 1), rfl, rfl, h _ ?_⟩, fun h2 => ⟨([65533], 0), rfl, rfl, h _ ?_⟩⟩⟩
    all_goals simp only [strBytes_size, ByteArray.size_append, List.length_append, List.length_cons, List.length_nil, Nat.zero_add, Bool.and_eq_true, Bool.or_eq_true, Bool.and_eq_false_iff, Bool.or_eq_false_iff, decide_eq_true_eq, decide_eq_false_iff_not, Bool.not_eq_true', Bool.not_eq_eq_eq_not, Bool.not_true, Bool.not_false, true_and, and_true, Int.toNat_natCast, not_true_eq_false, not_false_eq_true, ne_eq, eq_self] at *
    all_goals unfold flushP
    · rw [if_pos (by exact h1)]
    · rw [if_neg (by exact h1), if_neg (by rw [← hr, h2]; exact Bool.false_ne_true)]
    · rw [if_neg (by exact h1), if_pos (by rw [← hr]; simpa using h2)]
  · exact h.elim)
noncomputable def e_uflush : List (FuncId × Con) := (20, uflushCon) :: l20
theorem e_uflush_ok : ConsOk Tryd.prog (look e_uflush) := cons_cons l20_ok uflush_ok
noncomputable def unextCon : Con := ⟨[.v, .v], fun ags M K => match ags, M with
  | [.val (.string pt), .val (.int .u8 b)], [] => (0 ≤ b ∧ b < 256) ∧ ∀ r : List Int × ByteArray × Int, r = nextP pt b → K (.tup [.own 0, .s r.2.1, .i r.2.2]) [ints r.1]
  | _, _ => False⟩
theorem unext_vc (pt : ByteArray) (b : Int) (K : AV → List Blk → Prop) : (evFn (env e_uflush) Tryd.f21 ({ cfg1 with rt := some rtNx }) [.s pt, .int .u8 b] [] K) = (
  ∃ (b_1 : Bool), ((!decide (pt = ByteArray.mk #[])) = true → ∀ (r : Bool), r = partS pt → (!r) = b_1) ∧ ((!decide (pt = ByteArray.mk #[]) && b_1) = true → ∃ (x : List Int
  × ByteArray × Int), [] = x.fst ∧ ByteArray.mk #[] = x.snd.fst ∧ (1 : Int) = x.snd.snd ∧ Leaf rtNx K x) ∧ ((!decide (pt = ByteArray.mk #[]) && b_1) = false → (0 ≤
  900000000 ∧ (0 : Int) ≤ b ∧ b < (256 : Int) ∧ pt.size ≤ 1000000) ∧ ∀ (l : List Int) (t : ByteArray), (l, t) = stepS pt b → ∃ (x : List Int × ByteArray × Int), [] ++ l =
  x.fst ∧ t = x.snd.fst ∧ (0 : Int) = x.snd.snd ∧ Leaf rtNx K x)) := by kernel_rfl

theorem unext_ok : ConOk Tryd.prog 21 unextCon := fn_ok2 (env_ok e_uflush_ok) mixed Tryd.func21 rfl unextCon (by
  intro ags M K h
  unfold unextCon at h
  simp only at h
  split at h
  · rename_i pt b
    refine ⟨{ cfg1 with rt := some rtNx }, ?_⟩
    show evFn (env e_uflush) _ _ [.s pt, .int .u8 b] [] _
    rw [unext_vc]
    obtain ⟨hp, h⟩ := h
    refine ⟨_, fun _ r hr => congrArg not hr, fun h1 => ⟨([], E0, 1), rfl, rfl, rfl, h _ ?_⟩, fun h1 => ⟨⟨by omega, hp.1, hp.2, ?_⟩, fun l t e => ⟨(l, t, 0), rfl, rfl, rfl, h _ ?_⟩⟩⟩
    · simp only [strBytes_size, ByteArray.size_append, List.length_append, List.length_cons, List.length_nil, Nat.zero_add, Bool.and_eq_true, Bool.or_eq_true, Bool.and_eq_false_iff, Bool.or_eq_false_iff, decide_eq_true_eq, decide_eq_false_iff_not, Bool.not_eq_true', Bool.not_eq_eq_eq_not, Bool.not_true, Bool.not_false, true_and, and_true, Int.toNat_natCast, not_true_eq_false, not_false_eq_true, ne_eq, eq_self] at h1
      unfold nextP
      rw [if_pos (by exact h1)]
    · simp only [strBytes_size, ByteArray.size_append, List.length_append, List.length_cons, List.length_nil, Nat.zero_add, Bool.and_eq_true, Bool.or_eq_true, Bool.and_eq_false_iff, Bool.or_eq_false_iff, decide_eq_true_eq, decide_eq_false_iff_not, Bool.not_eq_true', Bool.not_eq_eq_eq_not, Bool.not_true, Bool.not_false, true_and, and_true, Int.toNat_natCast, not_true_eq_false, not_false_eq_true, ne_eq, eq_self] at h1
      rcases h1 with h1 | h1
      · rw [h1]; exact Nat.zero_le _
      · have := partS_size h1; omega
    · simp only [strBytes_size, ByteArray.size_append, List.length_append, List.length_cons, List.length_nil, Nat.zero_add, Bool.and_eq_true, Bool.or_eq_true, Bool.and_eq_false_iff, Bool.or_eq_false_iff, decide_eq_true_eq, decide_eq_false_iff_not, Bool.not_eq_true', Bool.not_eq_eq_eq_not, Bool.not_true, Bool.not_false, true_and, and_true, Int.toNat_natCast, not_true_eq_false, not_false_eq_true, ne_eq, eq_self] at h1
      unfold nextP
      rw [if_neg, ← e]
      rintro ⟨e1, e2⟩
      rcases h1 with h1 | h1
      · exact e1 h1
      · rw [e2] at h1; cases h1
  · exact h.elim)
noncomputable def e_unext : List (FuncId × Con) := (21, unextCon) :: e_uflush
theorem e_unext_ok : ConsOk Tryd.prog (look e_unext) := cons_cons e_uflush_ok unext_ok
def wantP (s : ByteArray) : Int := if (s = E0 ∨ partS s = true) then 0 else 1
def ubS : List ByteArray := [E0, ⟨#[195]⟩, ⟨#[226, 130]⟩, ⟨#[240, 159, 152]⟩, ⟨#[237]⟩, ⟨#[244]⟩, ⟨#[224]⟩, ⟨#[240]⟩]
noncomputable def ubytesCon : Con := ⟨[.g [some .str]], fun ags M K => match ags, M with
  | [.agg [.lt .str l]], [] => (l.length ≤ 8796093021952 ∧ ∀ s ∈ (l : List ByteArray), s.size ≤ 140737488351232) ∧ (K (.b true) [])
  | _, _ => False⟩
theorem ubytes_vc (l : List ByteArray) (K : AV → List Blk → Prop) : (evFn (env e_unext) Tryd.f5 ({ cfg1 with rt := some rtB, lp := fun r => match r with | 5 => some { X := Nat, fr := fun x => [(1, .ptr 0 0), (3, .own 1), (4, .i x)], M := fun x => [.flat [.lt .str l], .arr .str (ubS ++ l)], inv := fun x => x ≤ (ubS ++ l).length, mu := fun x => (ubS ++ l).length - x } | 19 => some { X := Nat × Int × Nat, fr := fun x => [(1, .ptr 0 0), (3, .own 1), (4, .i x.1), (7, .i x.2.1), (9, .i x.2.2)], M := fun x => [.flat [.lt .str l], .arr .str (ubS ++ l)], inv := fun _ => True, rel := fun x0 x => (x.1 < (ubS ++ l).length ∧ x.1 < 14 ∧ x.2.1 = wantP (gt .str (ubS ++ l) x.1) ∧ x.2.2 ≤ 256) ∧ x.1 = x0.1, mu := fun x => 256 - x.2.2 } | _ => none }) [.agg [.lt .str l]] [] K) = (
  (l.length ≤ 140737488351232 ∧ ∀ (s : El Kd.str), s ∈ l → ByteArray.size s ≤ 140737488351232) ∧ ∀ (r : Bool), (r = false → ∀ (s : El Kd.str), s ∈ l → ByteArray.size s ≤
  4000) → (r = true → ∃ (x : Bool), x = true ∧ Leaf rtB K x) ∧ (r = false → (8 + l.length ≤ 140737488355328 ∧ (8 + l.length) * 16 ≤ 140737488355328) ∧ ∃ (x0 : Nat), x0 ≤
  (ubS ++ l).length ∧ l = l ∧ [ByteArray.mk #[], ByteArray.mk #[(195 : UInt8)], ByteArray.mk #[(226 : UInt8), (130 : UInt8)], ByteArray.mk #[(240 : UInt8), (159 : UInt8),
  (152 : UInt8)], ByteArray.mk #[(237 : UInt8)], ByteArray.mk #[(244 : UInt8)], ByteArray.mk #[(224 : UInt8)], ByteArray.mk #[(240 : UInt8)]] ++ l = ubS ++ l ∧ 0 = 0 ∧ (0 :
  Int) = (↑x0 : Int) ∧ ∀ (x : Nat), x ≤ (ubS ++ l).length → ∃ (b : Bool), (decide ((↑x : Int) < (↑(ubS ++ l).length : Int)) = true → decide ((↑x : Int) < (14 : Int)) = b) ∧
  ((decide ((↑x : Int) < (↑(ubS ++ l).length : Int)) && b) = true → ((0 : Int) ≤ (↑x : Int) ∧ (↑x : Int) < (↑(ubS ++ l).length : Int)) ∧ (↑x : Int).toNat < (ubS ++
  l).length ∧ ∀ (r : Bool), r = partS (gt Kd.str (ubS ++ l) (↑x : Int).toNat) → ((0 : Int) ≤ (↑x : Int) ∧ (↑x : Int) < (↑(ubS ++ l).length : Int)) ∧ (↑x : Int).toNat < (ubS
  ++ l).length ∧ ∀ (r_1 : Bool), r_1 = partS (gt Kd.str (ubS ++ l) (↑x : Int).toNat) → ((r != r_1) = true → ∃ (x : Bool), x = false ∧ Leaf rtB K x) ∧ ((r != r_1) = false →
  ((0 : Int) ≤ (↑x : Int) ∧ (↑x : Int) < (↑(ubS ++ l).length : Int)) ∧ (↑x : Int).toNat < (ubS ++ l).length ∧ True ∧ ∀ (r : List Int × Int), r = flushP (gt Kd.str (ubS ++
  l) (↑x : Int).toNat) → ((0 : Int) ≤ (↑x : Int) ∧ (↑x : Int) < (↑(ubS ++ l).length : Int)) ∧ (↑x : Int).toNat < (ubS ++ l).length ∧ ∀ (r_2 : Bool), r_2 = decide (gt Kd.str
  (ubS ++ l) (↑x : Int).toNat = ByteArray.mk #[] ∨ partS (gt Kd.str (ubS ++ l) (↑x : Int).toNat) = true) → (r_2 = true → ((0 : Int) ≤ (↑x : Int) ∧ (↑x : Int) < (↑(ubS ++
  l).length : Int)) ∧ (↑x : Int).toNat < (ubS ++ l).length ∧ ((!decide (gt Kd.str (ubS ++ l) (↑x : Int).toNat = ByteArray.mk #[])) = true → ∃ (b : Bool), ((!decide (r.snd =
  (0 : Int))) = false → r.fst.length ≤ 4611686018427387904 ∧ ∀ (r_3 : Bool), r_3 = decide (r.fst = [(65533 : Int)]) → (!r_3) = b) ∧ ((!decide (r.snd = (0 : Int)) || b) =
  true → ∃ (x : Bool), x = false ∧ Leaf rtB K x) ∧ ((!decide (r.snd = (0 : Int)) || b) = false → ∃ (x0 : Nat × Int × Nat), ((x0.fst < (ubS ++ l).length ∧ x0.fst < 14 ∧
  x0.snd.fst = wantP (gt Kd.str (ubS ++ l) x0.fst) ∧ x0.snd.snd ≤ 256) ∧ x0.fst = x0.fst) ∧ l = l ∧ ubS ++ l = ubS ++ l ∧ 0 = 0 ∧ (↑x : Int) = (↑x0.fst : Int) ∧ (0 : Int) =
  x0.snd.fst ∧ (0 : Int) = (↑x0.snd.snd : Int) ∧ ∀ (x_1 : Nat × Int × Nat), (x_1.fst < (ubS ++ l).length ∧ x_1.fst < 14 ∧ x_1.snd.fst = wantP (gt Kd.str (ubS ++ l) x_1.fst)
  ∧ x_1.snd.snd ≤ 256) ∧ x_1.fst = x0.fst → (decide ((↑x_1.snd.snd : Int) < (256 : Int)) = true → ((0 : Int) ≤ (↑x_1.fst : Int) ∧ (↑x_1.fst : Int) < (↑(ubS ++ l).length :
  Int)) ∧ (↑x_1.fst : Int).toNat < (ubS ++ l).length ∧ ((0 : Int) ≤ IntKind.u8.wrap (↑x_1.snd.snd : Int) ∧ IntKind.u8.wrap (↑x_1.snd.snd : Int) < (256 : Int)) ∧ ∀ (r : List
  Int × ByteArray × Int), r = nextP (gt Kd.str (ubS ++ l) (↑x_1.fst : Int).toNat) (IntKind.u8.wrap (↑x_1.snd.snd : Int)) → (decide (x_1.snd.fst = (0 : Int)) = true → ((0 :
  Int) ≤ (↑x_1.fst : Int) ∧ (↑x_1.fst : Int) < (↑(ubS ++ l).length : Int)) ∧ (↑x_1.fst : Int).toNat < (ubS ++ l).length ∧ ((gt Kd.str (ubS ++ l) (↑x_1.fst : Int).toNat =
  ByteArray.mk #[] ∨ partS (gt Kd.str (ubS ++ l) (↑x_1.fst : Int).toNat) = true) ∧ (0 : Int) ≤ IntKind.u8.wrap (↑x_1.snd.snd : Int) ∧ IntKind.u8.wrap (↑x_1.snd.snd : Int) <
  (256 : Int)) ∧ ∀ (l_1 : List Int) (t : ByteArray), (l_1, t) = stepS (gt Kd.str (ubS ++ l) (↑x_1.fst : Int).toNat) (IntKind.u8.wrap (↑x_1.snd.snd : Int)) → ∃ (b : Bool),
  ((!decide (r.snd.snd = x_1.snd.fst)) = false → (!decide (r.snd.fst = t)) = b) ∧ ∃ (b_1 : Bool), ((!decide (r.snd.snd = x_1.snd.fst) || b) = false → r.fst.length ≤
  4611686018427387904 ∧ ∀ (r_3 : Bool), r_3 = decide (r.fst = l_1) → (!r_3) = b_1) ∧ ((!decide (r.snd.snd = x_1.snd.fst) || b || b_1) = true → ∃ (x : Bool), x = false ∧
  Leaf rtB K x) ∧ ((!decide (r.snd.snd = x_1.snd.fst) || b || b_1) = false → ∃ (x' : Nat × Int × Nat), (((x'.fst < (ubS ++ l).length ∧ x'.fst < 14 ∧ x'.snd.fst = wantP (gt
  Kd.str (ubS ++ l) x'.fst) ∧ x'.snd.snd ≤ 256) ∧ x'.fst = x0.fst) ∧ 256 - x'.snd.snd < 256 - x_1.snd.snd) ∧ l = l ∧ ubS ++ l = ubS ++ l ∧ 0 = 0 ∧ (↑x_1.fst : Int) =
  (↑x'.fst : Int) ∧ x_1.snd.fst = x'.snd.fst ∧ IntKind.i64.wrap ((↑x_1.snd.snd : Int) + (1 : Int)) = (↑x'.snd.snd : Int) ∧ True)) ∧ (decide (x_1.snd.fst = (0 : Int)) =
  false → ∃ (b : Bool), ((!decide (r.snd.snd = x_1.snd.fst)) = false → (!decide (r.snd.fst = ByteArray.mk #[])) = b) ∧ ∃ (b_1 : Bool), ((!decide (r.snd.snd = x_1.snd.fst)
  || b) = false → r.fst.length ≤ 4611686018427387904 ∧ ∀ (r_3 : Bool), r_3 = decide (r.fst = []) → (!r_3) = b_1) ∧ ((!decide (r.snd.snd = x_1.snd.fst) || b || b_1) = true →
  ∃ (x : Bool), x = false ∧ Leaf rtB K x) ∧ ((!decide (r.snd.snd = x_1.snd.fst) || b || b_1) = false → ∃ (x' : Nat × Int × Nat), (((x'.fst < (ubS ++ l).length ∧ x'.fst < 14
  ∧ x'.snd.fst = wantP (gt Kd.str (ubS ++ l) x'.fst) ∧ x'.snd.snd ≤ 256) ∧ x'.fst = x0.fst) ∧ 256 - x'.snd.snd < 256 - x_1.snd.snd) ∧ l = l ∧ ubS ++ l = ubS ++ l ∧ 0 = 0 ∧
  (↑x_1.fst : Int) = (↑x'.fst : Int) ∧ x_1.snd.fst = x'.snd.fst ∧ IntKind.i64.wrap ((↑x_1.snd.snd : Int) + (1 : Int)) = (↑x'.snd.snd : Int) ∧ True))) ∧ (decide
  ((↑x_1.snd.snd : Int) < (256 : Int)) = false → ∃ (x' : Nat), (x' ≤ (ubS ++ l).length ∧ (ubS ++ l).length - x' < (ubS ++ l).length - x) ∧ l = l ∧ ubS ++ l = ubS ++ l ∧ 0 =
  0 ∧ IntKind.i64.wrap ((↑x_1.fst : Int) + (1 : Int)) = (↑x' : Int) ∧ True))) ∧ ((!decide (gt Kd.str (ubS ++ l) (↑x : Int).toNat = ByteArray.mk #[])) = false → ∃ (b :
  Bool), ((!decide (r.snd = (0 : Int))) = false → r.fst.length ≤ 4611686018427387904 ∧ ∀ (r_3 : Bool), r_3 = decide (r.fst = []) → (!r_3) = b) ∧ ((!decide (r.snd = (0 :
  Int)) || b) = true → ∃ (x : Bool), x = false ∧ Leaf rtB K x) ∧ ((!decide (r.snd = (0 : Int)) || b) = false → ∃ (x0 : Nat × Int × Nat), ((x0.fst < (ubS ++ l).length ∧
  x0.fst < 14 ∧ x0.snd.fst = wantP (gt Kd.str (ubS ++ l) x0.fst) ∧ x0.snd.snd ≤ 256) ∧ x0.fst = x0.fst) ∧ l = l ∧ ubS ++ l = ubS ++ l ∧ 0 = 0 ∧ (↑x : Int) = (↑x0.fst : Int)
  ∧ (0 : Int) = x0.snd.fst ∧ (0 : Int) = (↑x0.snd.snd : Int) ∧ ∀ (x_1 : Nat × Int × Nat), (x_1.fst < (ubS ++ l).length ∧ x_1.fst < 14 ∧ x_1.snd.fst = wantP (gt Kd.str (ubS
  ++ l) x_1.fst) ∧ x_1.snd.snd ≤ 256) ∧ x_1.fst = x0.fst → (decide ((↑x_1.snd.snd : Int) < (256 : Int)) = true → ((0 : Int) ≤ (↑x_1.fst : Int) ∧ (↑x_1.fst : Int) < (↑(ubS
  ++ l).length : Int)) ∧ (↑x_1.fst : Int).toNat < (ubS ++ l).length ∧ ((0 : Int) ≤ IntKind.u8.wrap (↑x_1.snd.snd : Int) ∧ IntKind.u8.wrap (↑x_1.snd.snd : Int) < (256 :
  Int)) ∧ ∀ (r : List Int × ByteArray × Int), r = nextP (gt Kd.str (ubS ++ l) (↑x_1.fst : Int).toNat) (IntKind.u8.wrap (↑x_1.snd.snd : Int)) → (decide (x_1.snd.fst = (0 :
  Int)) = true → ((0 : Int) ≤ (↑x_1.fst : Int) ∧ (↑x_1.fst : Int) < (↑(ubS ++ l).length : Int)) ∧ (↑x_1.fst : Int).toNat < (ubS ++ l).length ∧ ((gt Kd.str (ubS ++ l)
  (↑x_1.fst : Int).toNat = ByteArray.mk #[] ∨ partS (gt Kd.str (ubS ++ l) (↑x_1.fst : Int).toNat) = true) ∧ (0 : Int) ≤ IntKind.u8.wrap (↑x_1.snd.snd : Int) ∧
  IntKind.u8.wrap (↑x_1.snd.snd : Int) < (256 : Int)) ∧ ∀ (l_1 : List Int) (t : ByteArray), (l_1, t) = stepS (gt Kd.str (ubS ++ l) (↑x_1.fst : Int).toNat) (IntKind.u8.wrap
  (↑x_1.snd.snd : Int)) → ∃ (b : Bool), ((!decide (r.snd.snd = x_1.snd.fst)) = false → (!decide (r.snd.fst = t)) = b) ∧ ∃ (b_1 : Bool), ((!decide (r.snd.snd = x_1.snd.fst)
  || b) = false → r.fst.length ≤ 4611686018427387904 ∧ ∀ (r_3 : Bool), r_3 = decide (r.fst = l_1) → (!r_3) = b_1) ∧ ((!decide (r.snd.snd = x_1.snd.fst) || b || b_1) = true
  → ∃ (x : Bool), x = false ∧ Leaf rtB K x) ∧ ((!decide (r.snd.snd = x_1.snd.fst) || b || b_1) = false → ∃ (x' : Nat × Int × Nat), (((x'.fst < (ubS ++ l).length ∧ x'.fst <
  14 ∧ x'.snd.fst = wantP (gt Kd.str (ubS ++ l) x'.fst) ∧ x'.snd.snd ≤ 256) ∧ x'.fst = x0.fst) ∧ 256 - x'.snd.snd < 256 - x_1.snd.snd) ∧ l = l ∧ ubS ++ l = ubS ++ l ∧ 0 = 0
  ∧ (↑x_1.fst : Int) = (↑x'.fst : Int) ∧ x_1.snd.fst = x'.snd.fst ∧ IntKind.i64.wrap ((↑x_1.snd.snd : Int) + (1 : Int)) = (↑x'.snd.snd : Int) ∧ True)) ∧ (decide
  (x_1.snd.fst = (0 : Int)) = false → ∃ (b : Bool), ((!decide (r.snd.snd = x_1.snd.fst)) = false → (!decide (r.snd.fst = ByteArray.mk #[])) = b) ∧ ∃ (b_1 : Bool), ((!decide
  (r.snd.snd = x_1.snd.fst) || b) = false → r.fst.length ≤ 4611686018427387904 ∧ ∀ (r_3 : Bool), r_3 = decide (r.fst = []) → (!r_3) = b_1) ∧ ((!decide (r.snd.snd =
  x_1.snd.fst) || b || b_1) = true → ∃ (x : Bool), x = false ∧ Leaf rtB K x) ∧ ((!decide (r.snd.snd = x_1.snd.fst) || b || b_1) = false → ∃ (x' : Nat × Int × Nat),
  (((x'.fst < (ubS ++ l).length ∧ x'.fst < 14 ∧ x'.snd.fst = wantP (gt Kd.str (ubS ++ l) x'.fst) ∧ x'.snd.snd ≤ 256) ∧ x'.fst = x0.fst) ∧ 256 - x'.snd.snd < 256 -
  x_1.snd.snd) ∧ l = l ∧ ubS ++ l = ubS ++ l ∧ 0 = 0 ∧ (↑x_1.fst : Int) = (↑x'.fst : Int) ∧ x_1.snd.fst = x'.snd.fst ∧ IntKind.i64.wrap ((↑x_1.snd.snd : Int) + (1 : Int)) =
  (↑x'.snd.snd : Int) ∧ True))) ∧ (decide ((↑x_1.snd.snd : Int) < (256 : Int)) = false → ∃ (x' : Nat), (x' ≤ (ubS ++ l).length ∧ (ubS ++ l).length - x' < (ubS ++ l).length
  - x) ∧ l = l ∧ ubS ++ l = ubS ++ l ∧ 0 = 0 ∧ IntKind.i64.wrap ((↑x_1.fst : Int) + (1 : Int)) = (↑x' : Int) ∧ True)))) ∧ (r_2 = false → ∃ (b : Bool), ((!decide (r.snd = (1
  : Int))) = false → r.fst.length ≤ 4611686018427387904 ∧ ∀ (r_3 : Bool), r_3 = decide (r.fst = []) → (!r_3) = b) ∧ ((!decide (r.snd = (1 : Int)) || b) = true → ∃ (x :
  Bool), x = false ∧ Leaf rtB K x) ∧ ((!decide (r.snd = (1 : Int)) || b) = false → ∃ (x0 : Nat × Int × Nat), ((x0.fst < (ubS ++ l).length ∧ x0.fst < 14 ∧ x0.snd.fst = wantP
  (gt Kd.str (ubS ++ l) x0.fst) ∧ x0.snd.snd ≤ 256) ∧ x0.fst = x0.fst) ∧ l = l ∧ ubS ++ l = ubS ++ l ∧ 0 = 0 ∧ (↑x : Int) = (↑x0.fst : Int) ∧ (1 : Int) = x0.snd.fst ∧ (0 :
  Int) = (↑x0.snd.snd : Int) ∧ ∀ (x_1 : Nat × Int × Nat), (x_1.fst < (ubS ++ l).length ∧ x_1.fst < 14 ∧ x_1.snd.fst = wantP (gt Kd.str (ubS ++ l) x_1.fst) ∧ x_1.snd.snd ≤
  256) ∧ x_1.fst = x0.fst → (decide ((↑x_1.snd.snd : Int) < (256 : Int)) = true → ((0 : Int) ≤ (↑x_1.fst : Int) ∧ (↑x_1.fst : Int) < (↑(ubS ++ l).length : Int)) ∧ (↑x_1.fst
  : Int).toNat < (ubS ++ l).length ∧ ((0 : Int) ≤ IntKind.u8.wrap (↑x_1.snd.snd : Int) ∧ IntKind.u8.wrap (↑x_1.snd.snd : Int) < (256 : Int)) ∧ ∀ (r : List Int × ByteArray ×
  Int), r = nextP (gt Kd.str (ubS ++ l) (↑x_1.fst : Int).toNat) (IntKind.u8.wrap (↑x_1.snd.snd : Int)) → (decide (x_1.snd.fst = (0 : Int)) = true → ((0 : Int) ≤ (↑x_1.fst :
  Int) ∧ (↑x_1.fst : Int) < (↑(ubS ++ l).length : Int)) ∧ (↑x_1.fst : Int).toNat < (ubS ++ l).length ∧ ((gt Kd.str (ubS ++ l) (↑x_1.fst : Int).toNat = ByteArray.mk #[] ∨
  partS (gt Kd.str (ubS ++ l) (↑x_1.fst : Int).toNat) = true) ∧ (0 : Int) ≤ IntKind.u8.wrap (↑x_1.snd.snd : Int) ∧ IntKind.u8.wrap (↑x_1.snd.snd : Int) < (256 : Int)) ∧ ∀
  (l_1 : List Int) (t : ByteArray), (l_1, t) = stepS (gt Kd.str (ubS ++ l) (↑x_1.fst : Int).toNat) (IntKind.u8.wrap (↑x_1.snd.snd : Int)) → ∃ (b : Bool), ((!decide
  (r.snd.snd = x_1.snd.fst)) = false → (!decide (r.snd.fst = t)) = b) ∧ ∃ (b_1 : Bool), ((!decide (r.snd.snd = x_1.snd.fst) || b) = false → r.fst.length ≤
  4611686018427387904 ∧ ∀ (r_3 : Bool), r_3 = decide (r.fst = l_1) → (!r_3) = b_1) ∧ ((!decide (r.snd.snd = x_1.snd.fst) || b || b_1) = true → ∃ (x : Bool), x = false ∧
  Leaf rtB K x) ∧ ((!decide (r.snd.snd = x_1.snd.fst) || b || b_1) = false → ∃ (x' : Nat × Int × Nat), (((x'.fst < (ubS ++ l).length ∧ x'.fst < 14 ∧ x'.snd.fst = wantP (gt
  Kd.str (ubS ++ l) x'.fst) ∧ x'.snd.snd ≤ 256) ∧ x'.fst = x0.fst) ∧ 256 - x'.snd.snd < 256 - x_1.snd.snd) ∧ l = l ∧ ubS ++ l = ubS ++ l ∧ 0 = 0 ∧ (↑x_1.fst : Int) =
  (↑x'.fst : Int) ∧ x_1.snd.fst = x'.snd.fst ∧ IntKind.i64.wrap ((↑x_1.snd.snd : Int) + (1 : Int)) = (↑x'.snd.snd : Int) ∧ True)) ∧ (decide (x_1.snd.fst = (0 : Int)) =
  false → ∃ (b : Bool), ((!decide (r.snd.snd = x_1.snd.fst)) = false → (!decide (r.snd.fst = ByteArray.mk #[])) = b) ∧ ∃ (b_1 : Bool), ((!decide (r.snd.snd = x_1.snd.fst)
  || b) = false → r.fst.length ≤ 4611686018427387904 ∧ ∀ (r_3 : Bool), r_3 = decide (r.fst = []) → (!r_3) = b_1) ∧ ((!decide (r.snd.snd = x_1.snd.fst) || b || b_1) = true →
  ∃ (x : Bool), x = false ∧ Leaf rtB K x) ∧ ((!decide (r.snd.snd = x_1.snd.fst) || b || b_1) = false → ∃ (x' : Nat × Int × Nat), (((x'.fst < (ubS ++ l).length ∧ x'.fst < 14
  ∧ x'.snd.fst = wantP (gt Kd.str (ubS ++ l) x'.fst) ∧ x'.snd.snd ≤ 256) ∧ x'.fst = x0.fst) ∧ 256 - x'.snd.snd < 256 - x_1.snd.snd) ∧ l = l ∧ ubS ++ l = ubS ++ l ∧ 0 = 0 ∧
  (↑x_1.fst : Int) = (↑x'.fst : Int) ∧ x_1.snd.fst = x'.snd.fst ∧ IntKind.i64.wrap ((↑x_1.snd.snd : Int) + (1 : Int)) = (↑x'.snd.snd : Int) ∧ True))) ∧ (decide
  ((↑x_1.snd.snd : Int) < (256 : Int)) = false → ∃ (x' : Nat), (x' ≤ (ubS ++ l).length ∧ (ubS ++ l).length - x' < (ubS ++ l).length - x) ∧ l = l ∧ ubS ++ l = ubS ++ l ∧ 0 =
  0 ∧ IntKind.i64.wrap ((↑x_1.fst : Int) + (1 : Int)) = (↑x' : Int) ∧ True))))) ∧ ((decide ((↑x : Int) < (↑(ubS ++ l).length : Int)) && b) = false → ∃ (x : Bool), true = x
  ∧ Leaf rtB K x))) := by kernel_rfl

theorem ubytes_ok : ConOk Tryd.prog 5 ubytesCon := fn_ok2 (env_ok e_unext_ok) mixed Tryd.func5 rfl ubytesCon (by
  intro ags M K h
  unfold ubytesCon at h
  simp only at h
  split at h
  · rename_i l
    refine ⟨{ cfg1 with rt := some rtB, lp := fun r => match r with | 5 => some { X := Nat, fr := fun x => [(1, .ptr 0 0), (3, .own 1), (4, .i x)], M := fun x => [.flat [.lt .str l], .arr .str (ubS ++ l)], inv := fun x => x ≤ (ubS ++ l).length, mu := fun x => (ubS ++ l).length - x } | 19 => some { X := Nat × Int × Nat, fr := fun x => [(1, .ptr 0 0), (3, .own 1), (4, .i x.1), (7, .i x.2.1), (9, .i x.2.2)], M := fun x => [.flat [.lt .str l], .arr .str (ubS ++ l)], inv := fun _ => True, rel := fun x0 x => (x.1 < (ubS ++ l).length ∧ x.1 < 14 ∧ x.2.1 = wantP (gt .str (ubS ++ l) x.1) ∧ x.2.2 ≤ 256) ∧ x.1 = x0.1, mu := fun x => 256 - x.2.2 } | _ => none }, ?_⟩
    show evFn (env e_unext) _ _ [.agg [.lt .str l]] [] _
    rw [ubytes_vc]
    obtain ⟨hp, h⟩ := h
    obtain ⟨p1, p2⟩ := hp
    have hu : ubS.length = 8 := rfl
    have hlen : (ubS ++ l).length = 8 + l.length := by rw [List.length_append]; rfl
    refine ⟨⟨by omega, p2⟩, fun r hr => ⟨fun _ => ⟨_, rfl, h⟩, fun hr0 => ⟨⟨by omega, by omega⟩, 0, Nat.zero_le _, rfl, rfl, rfl, rfl, ?_⟩⟩⟩
    clear hr hr0
    intro i q1
    refine ⟨_, fun _ => rfl, fun h1 => ?_, fun h1 => ⟨_, rfl, h⟩⟩
    simp only [strBytes_size, ByteArray.size_append, List.length_append, List.length_cons, List.length_nil, Nat.zero_add, Bool.and_eq_true, Bool.or_eq_true, Bool.and_eq_false_iff, Bool.or_eq_false_iff, decide_eq_true_eq, decide_eq_false_iff_not, Bool.not_eq_true', Bool.not_eq_eq_eq_not, Bool.not_true, Bool.not_false, true_and, and_true, Int.toNat_natCast, not_true_eq_false, not_false_eq_true, ne_eq, eq_self] at h1
    obtain ⟨h1, h1b⟩ := h1
    have hb : (0 : Int) ≤ (i : Int) ∧ (i : Int) < ((ubS ++ l).length : Int) := ⟨by omega, by omega⟩
    have hn : (i : Int).toNat < (ubS ++ l).length := by omega
    rw [Int.toNat_natCast] at hn ⊢
    refine ⟨hb, hn, fun r1 e1 => ⟨hb, hn, fun r2 e2 => ⟨fun h2 => ?_, fun h2 => ⟨hb, hn, trivial, ?_⟩⟩⟩⟩
    · rw [e1, e2] at h2; simp at h2
    rintro ⟨fl, fe⟩ hf
    refine ⟨hb, hn, fun r3 e3 => ⟨fun h3 => ⟨hb, hn, fun h4 => ?_, fun h4 => ?_⟩, fun h3 => ?_⟩⟩
    · simp only [strBytes_size, ByteArray.size_append, List.length_append, List.length_cons, List.length_nil, Nat.zero_add, Bool.and_eq_true, Bool.or_eq_true, Bool.and_eq_false_iff, Bool.or_eq_false_iff, decide_eq_true_eq, decide_eq_false_iff_not, Bool.not_eq_true', Bool.not_eq_eq_eq_not, Bool.not_true, Bool.not_false, true_and, and_true, Int.toNat_natCast, not_true_eq_false, not_false_eq_true, ne_eq, eq_self] at h3 h4
      have hm : gt Kd.str (ubS ++ l) i = E0 ∨ partS (gt Kd.str (ubS ++ l) i) = true := of_decide_eq_true (e3.symm.trans h3)
      have hfl : flushP (gt Kd.str (ubS ++ l) i) = ([65533], 0) := by
        unfold flushP
        rw [if_neg (by exact h4), if_pos (hm.resolve_left (by exact h4))]
      rw [hfl] at hf
      cases hf
      refine ⟨false, fun _ => ⟨by simp, fun r e => by rw [e]; simp⟩, fun q => by simp at q, fun _ => ⟨(i, 0, 0), ⟨⟨hn, by omega, (if_pos hm).symm, Nat.zero_le _⟩, rfl⟩, rfl, rfl, rfl, rfl, rfl, rfl, ?_⟩⟩
      rintro ⟨j, want, b⟩ ⟨⟨c1, c2, c3, c4⟩, c5⟩
      dsimp only at c1 c2 c3 c4 c5 ⊢
      subst c5
      refine ⟨fun d1 => ?_, fun d1 => ⟨j + 1, ⟨by omega, by omega⟩, rfl, rfl, rfl, by rw [w64 (by omega)]; omega, trivial⟩⟩
      simp only [strBytes_size, ByteArray.size_append, List.length_append, List.length_cons, List.length_nil, Nat.zero_add, Bool.and_eq_true, Bool.or_eq_true, Bool.and_eq_false_iff, Bool.or_eq_false_iff, decide_eq_true_eq, decide_eq_false_iff_not, Bool.not_eq_true', Bool.not_eq_eq_eq_not, Bool.not_true, Bool.not_false, true_and, and_true, Int.toNat_natCast, not_true_eq_false, not_false_eq_true, ne_eq, eq_self] at d1
      have hwr : IntKind.u8.wrap (b : Int) = b := by simp [IntKind.wrap, IntKind.bits, IntKind.signed]; omega
      rw [Int.toNat_natCast, hwr]
      refine ⟨hb, hn, ⟨by omega, by omega⟩, ?_⟩
      rintro ⟨nl, nt, ne⟩ hnx
      have step : (((j < (ubS ++ l).length ∧ j < 14 ∧ want = wantP (gt Kd.str (ubS ++ l) j) ∧ b + 1 ≤ 256) ∧ j = j) ∧ 256 - (b + 1) < 256 - b) := ⟨⟨⟨c1, c2, c3, by omega⟩, rfl⟩, by omega⟩
      have hcast : IntKind.i64.wrap ((b : Int) + 1) = ((b + 1 : Nat) : Int) := by rw [w64 (by omega)]; omega
      refine ⟨fun d2 => ⟨hb, hn, ⟨?_, by omega, by omega⟩, fun l1 t hst => ?_⟩, fun d2 => ?_⟩
      all_goals simp only [strBytes_size, ByteArray.size_append, List.length_append, List.length_cons, List.length_nil, Nat.zero_add, Bool.and_eq_true, Bool.or_eq_true, Bool.and_eq_false_iff, Bool.or_eq_false_iff, decide_eq_true_eq, decide_eq_false_iff_not, Bool.not_eq_true', Bool.not_eq_eq_eq_not, Bool.not_true, Bool.not_false, true_and, and_true, Int.toNat_natCast, not_true_eq_false, not_false_eq_true, ne_eq, eq_self] at d2
      · exact Classical.byContradiction fun hc => by
          have e : wantP (gt Kd.str (ubS ++ l) j) = 1 := if_neg hc
          omega
      · have hm2 : gt Kd.str (ubS ++ l) j = E0 ∨ partS (gt Kd.str (ubS ++ l) j) = true := Classical.byContradiction fun hc => by
          have e : wantP (gt Kd.str (ubS ++ l) j) = 1 := if_neg hc
          omega
        have e0 : nextP (gt Kd.str (ubS ++ l) j) b = (l1, t, 0) := by
          unfold nextP
          rw [if_neg, ← hst]
          rintro ⟨g1, g2⟩
          rcases hm2 with g | g
          · exact g1 g
          · rw [g2] at g; cases g
        rw [e0] at hnx
        cases hnx
        have hlen2 := (stepS_len (gt Kd.str (ubS ++ l) j) b).1
        rw [← hst] at hlen2
        have hlen2 : nl.length ≤ 2 := hlen2
        subst d2
        exact ⟨false, fun _ => by simp, false, fun _ => ⟨by show nl.length ≤ _; omega, fun r e => by rw [e]; simp⟩, fun q => by simp at q, fun _ => ⟨(j, 0, b + 1), step, rfl, rfl, rfl, rfl, rfl, hcast, trivial⟩⟩
      · have hm2 : ¬ (gt Kd.str (ubS ++ l) j = E0 ∨ partS (gt Kd.str (ubS ++ l) j) = true) := fun hc => by
          have e : wantP (gt Kd.str (ubS ++ l) j) = 0 := if_pos hc
          omega
        have e1 : wantP (gt Kd.str (ubS ++ l) j) = 1 := if_neg hm2
        have e0 : nextP (gt Kd.str (ubS ++ l) j) b = ([], E0, 1) := by
          unfold nextP
          rw [if_pos]
          refine ⟨fun e => hm2 (.inl e), ?_⟩
          cases hp : partS (gt Kd.str (ubS ++ l) j) with
          | true => exact absurd (.inr hp) hm2
          | false => rfl
        rw [e0] at hnx
        cases hnx
        have hw1 : want = 1 := c3.trans e1
        subst hw1
        exact ⟨false, fun _ => by simp [E0], false, fun _ => ⟨by simp, fun r e => by rw [e]; simp⟩, fun q => by simp at q, fun _ => ⟨(j, 1, b + 1), step, rfl, rfl, rfl, rfl, rfl, hcast, trivial⟩⟩
    · simp only [strBytes_size, ByteArray.size_append, List.length_append, List.length_cons, List.length_nil, Nat.zero_add, Bool.and_eq_true, Bool.or_eq_true, Bool.and_eq_false_iff, Bool.or_eq_false_iff, decide_eq_true_eq, decide_eq_false_iff_not, Bool.not_eq_true', Bool.not_eq_eq_eq_not, Bool.not_true, Bool.not_false, true_and, and_true, Int.toNat_natCast, not_true_eq_false, not_false_eq_true, ne_eq, eq_self] at h3 h4
      have hm : gt Kd.str (ubS ++ l) i = E0 ∨ partS (gt Kd.str (ubS ++ l) i) = true := of_decide_eq_true (e3.symm.trans h3)
      have hfl : flushP (gt Kd.str (ubS ++ l) i) = ([], 0) := by
        unfold flushP
        rw [if_pos (by exact h4)]
      rw [hfl] at hf
      cases hf
      refine ⟨false, fun _ => ⟨by simp, fun r e => by rw [e]; simp⟩, fun q => by simp at q, fun _ => ⟨(i, 0, 0), ⟨⟨hn, by omega, (if_pos hm).symm, Nat.zero_le _⟩, rfl⟩, rfl, rfl, rfl, rfl, rfl, rfl, ?_⟩⟩
      rintro ⟨j, want, b⟩ ⟨⟨c1, c2, c3, c4⟩, c5⟩
      dsimp only at c1 c2 c3 c4 c5 ⊢
      subst c5
      refine ⟨fun d1 => ?_, fun d1 => ⟨j + 1, ⟨by omega, by omega⟩, rfl, rfl, rfl, by rw [w64 (by omega)]; omega, trivial⟩⟩
      simp only [strBytes_size, ByteArray.size_append, List.length_append, List.length_cons, List.length_nil, Nat.zero_add, Bool.and_eq_true, Bool.or_eq_true, Bool.and_eq_false_iff, Bool.or_eq_false_iff, decide_eq_true_eq, decide_eq_false_iff_not, Bool.not_eq_true', Bool.not_eq_eq_eq_not, Bool.not_true, Bool.not_false, true_and, and_true, Int.toNat_natCast, not_true_eq_false, not_false_eq_true, ne_eq, eq_self] at d1
      have hwr : IntKind.u8.wrap (b : Int) = b := by simp [IntKind.wrap, IntKind.bits, IntKind.signed]; omega
      rw [Int.toNat_natCast, hwr]
      refine ⟨hb, hn, ⟨by omega, by omega⟩, ?_⟩
      rintro ⟨nl, nt, ne⟩ hnx
      have step : (((j < (ubS ++ l).length ∧ j < 14 ∧ want = wantP (gt Kd.str (ubS ++ l) j) ∧ b + 1 ≤ 256) ∧ j = j) ∧ 256 - (b + 1) < 256 - b) := ⟨⟨⟨c1, c2, c3, by omega⟩, rfl⟩, by omega⟩
      have hcast : IntKind.i64.wrap ((b : Int) + 1) = ((b + 1 : Nat) : Int) := by rw [w64 (by omega)]; omega
      refine ⟨fun d2 => ⟨hb, hn, ⟨?_, by omega, by omega⟩, fun l1 t hst => ?_⟩, fun d2 => ?_⟩
      all_goals simp only [strBytes_size, ByteArray.size_append, List.length_append, List.length_cons, List.length_nil, Nat.zero_add, Bool.and_eq_true, Bool.or_eq_true, Bool.and_eq_false_iff, Bool.or_eq_false_iff, decide_eq_true_eq, decide_eq_false_iff_not, Bool.not_eq_true', Bool.not_eq_eq_eq_not, Bool.not_true, Bool.not_false, true_and, and_true, Int.toNat_natCast, not_true_eq_false, not_false_eq_true, ne_eq, eq_self] at d2
      · exact Classical.byContradiction fun hc => by
          have e : wantP (gt Kd.str (ubS ++ l) j) = 1 := if_neg hc
          omega
      · have hm2 : gt Kd.str (ubS ++ l) j = E0 ∨ partS (gt Kd.str (ubS ++ l) j) = true := Classical.byContradiction fun hc => by
          have e : wantP (gt Kd.str (ubS ++ l) j) = 1 := if_neg hc
          omega
        have e0 : nextP (gt Kd.str (ubS ++ l) j) b = (l1, t, 0) := by
          unfold nextP
          rw [if_neg, ← hst]
          rintro ⟨g1, g2⟩
          rcases hm2 with g | g
          · exact g1 g
          · rw [g2] at g; cases g
        rw [e0] at hnx
        cases hnx
        have hlen2 := (stepS_len (gt Kd.str (ubS ++ l) j) b).1
        rw [← hst] at hlen2
        have hlen2 : nl.length ≤ 2 := hlen2
        subst d2
        exact ⟨false, fun _ => by simp, false, fun _ => ⟨by show nl.length ≤ _; omega, fun r e => by rw [e]; simp⟩, fun q => by simp at q, fun _ => ⟨(j, 0, b + 1), step, rfl, rfl, rfl, rfl, rfl, hcast, trivial⟩⟩
      · have hm2 : ¬ (gt Kd.str (ubS ++ l) j = E0 ∨ partS (gt Kd.str (ubS ++ l) j) = true) := fun hc => by
          have e : wantP (gt Kd.str (ubS ++ l) j) = 0 := if_pos hc
          omega
        have e1 : wantP (gt Kd.str (ubS ++ l) j) = 1 := if_neg hm2
        have e0 : nextP (gt Kd.str (ubS ++ l) j) b = ([], E0, 1) := by
          unfold nextP
          rw [if_pos]
          refine ⟨fun e => hm2 (.inl e), ?_⟩
          cases hp : partS (gt Kd.str (ubS ++ l) j) with
          | true => exact absurd (.inr hp) hm2
          | false => rfl
        rw [e0] at hnx
        cases hnx
        have hw1 : want = 1 := c3.trans e1
        subst hw1
        exact ⟨false, fun _ => by simp [E0], false, fun _ => ⟨by simp, fun r e => by rw [e]; simp⟩, fun q => by simp at q, fun _ => ⟨(j, 1, b + 1), step, rfl, rfl, rfl, rfl, rfl, hcast, trivial⟩⟩
    · have hm : ¬ (gt Kd.str (ubS ++ l) i = E0 ∨ partS (gt Kd.str (ubS ++ l) i) = true) := of_decide_eq_false (e3.symm.trans h3)
      have hfl : flushP (gt Kd.str (ubS ++ l) i) = ([], 1) := by
        unfold flushP
        rw [if_neg (fun e => hm (.inl e)), if_neg (fun e => hm (.inr e))]
      rw [hfl] at hf
      cases hf
      refine ⟨false, fun _ => ⟨by simp, fun r e => by rw [e]; simp⟩, fun q => by simp at q, fun _ => ⟨(i, 1, 0), ⟨⟨hn, by omega, (if_neg hm).symm, Nat.zero_le _⟩, rfl⟩, rfl, rfl, rfl, rfl, rfl, rfl, ?_⟩⟩
      rintro ⟨j, want, b⟩ ⟨⟨c1, c2, c3, c4⟩, c5⟩
      dsimp only at c1 c2 c3 c4 c5 ⊢
      subst c5
      refine ⟨fun d1 => ?_, fun d1 => ⟨j + 1, ⟨by omega, by omega⟩, rfl, rfl, rfl, by rw [w64 (by omega)]; omega, trivial⟩⟩
      simp only [strBytes_size, ByteArray.size_append, List.length_append, List.length_cons, List.length_nil, Nat.zero_add, Bool.and_eq_true, Bool.or_eq_true, Bool.and_eq_false_iff, Bool.or_eq_false_iff, decide_eq_true_eq, decide_eq_false_iff_not, Bool.not_eq_true', Bool.not_eq_eq_eq_not, Bool.not_true, Bool.not_false, true_and, and_true, Int.toNat_natCast, not_true_eq_false, not_false_eq_true, ne_eq, eq_self] at d1
      have hwr : IntKind.u8.wrap (b : Int) = b := by simp [IntKind.wrap, IntKind.bits, IntKind.signed]; omega
      rw [Int.toNat_natCast, hwr]
      refine ⟨hb, hn, ⟨by omega, by omega⟩, ?_⟩
      rintro ⟨nl, nt, ne⟩ hnx
      have step : (((j < (ubS ++ l).length ∧ j < 14 ∧ want = wantP (gt Kd.str (ubS ++ l) j) ∧ b + 1 ≤ 256) ∧ j = j) ∧ 256 - (b + 1) < 256 - b) := ⟨⟨⟨c1, c2, c3, by omega⟩, rfl⟩, by omega⟩
      have hcast : IntKind.i64.wrap ((b : Int) + 1) = ((b + 1 : Nat) : Int) := by rw [w64 (by omega)]; omega
      refine ⟨fun d2 => ⟨hb, hn, ⟨?_, by omega, by omega⟩, fun l1 t hst => ?_⟩, fun d2 => ?_⟩
      all_goals simp only [strBytes_size, ByteArray.size_append, List.length_append, List.length_cons, List.length_nil, Nat.zero_add, Bool.and_eq_true, Bool.or_eq_true, Bool.and_eq_false_iff, Bool.or_eq_false_iff, decide_eq_true_eq, decide_eq_false_iff_not, Bool.not_eq_true', Bool.not_eq_eq_eq_not, Bool.not_true, Bool.not_false, true_and, and_true, Int.toNat_natCast, not_true_eq_false, not_false_eq_true, ne_eq, eq_self] at d2
      · exact Classical.byContradiction fun hc => by
          have e : wantP (gt Kd.str (ubS ++ l) j) = 1 := if_neg hc
          omega
      · have hm2 : gt Kd.str (ubS ++ l) j = E0 ∨ partS (gt Kd.str (ubS ++ l) j) = true := Classical.byContradiction fun hc => by
          have e : wantP (gt Kd.str (ubS ++ l) j) = 1 := if_neg hc
          omega
        have e0 : nextP (gt Kd.str (ubS ++ l) j) b = (l1, t, 0) := by
          unfold nextP
          rw [if_neg, ← hst]
          rintro ⟨g1, g2⟩
          rcases hm2 with g | g
          · exact g1 g
          · rw [g2] at g; cases g
        rw [e0] at hnx
        cases hnx
        have hlen2 := (stepS_len (gt Kd.str (ubS ++ l) j) b).1
        rw [← hst] at hlen2
        have hlen2 : nl.length ≤ 2 := hlen2
        subst d2
        exact ⟨false, fun _ => by simp, false, fun _ => ⟨by show nl.length ≤ _; omega, fun r e => by rw [e]; simp⟩, fun q => by simp at q, fun _ => ⟨(j, 0, b + 1), step, rfl, rfl, rfl, rfl, rfl, hcast, trivial⟩⟩
      · have hm2 : ¬ (gt Kd.str (ubS ++ l) j = E0 ∨ partS (gt Kd.str (ubS ++ l) j) = true) := fun hc => by
          have e : wantP (gt Kd.str (ubS ++ l) j) = 0 := if_pos hc
          omega
        have e1 : wantP (gt Kd.str (ubS ++ l) j) = 1 := if_neg hm2
        have e0 : nextP (gt Kd.str (ubS ++ l) j) b = ([], E0, 1) := by
          unfold nextP
          rw [if_pos]
          refine ⟨fun e => hm2 (.inl e), ?_⟩
          cases hp : partS (gt Kd.str (ubS ++ l) j) with
          | true => exact absurd (.inr hp) hm2
          | false => rfl
        rw [e0] at hnx
        cases hnx
        have hw1 : want = 1 := c3.trans e1
        subst hw1
        exact ⟨false, fun _ => by simp [E0], false, fun _ => ⟨by simp, fun r e => by rw [e]; simp⟩, fun q => by simp at q, fun _ => ⟨(j, 1, b + 1), step, rfl, rfl, rfl, rfl, rfl, hcast, trivial⟩⟩
  · exact h.elim)
noncomputable def e_ubytes : List (FuncId × Con) := (5, ubytesCon) :: e_unext
theorem e_ubytes_ok : ConsOk Tryd.prog (look e_ubytes) := cons_cons e_unext_ok ubytes_ok
end Go.Cx
end
section
namespace Go.Cx
open Go Go.Sx Go.Proofs
set_option maxRecDepth 100000
set_option maxHeartbeats 0
/-! utf: a text in two parts, and what Go reads of it -/

theorem runS_app : ∀ (a b : List Int) (st : List Int × ByteArray), runS st (a ++ b) = runS (runS st a) b
  | [], b, st => rfl
  | x :: a, b, st => by rw [List.cons_append, runS, runS, runS_app a b]
theorem runS_acc : ∀ (bs acc x : List Int) (t : ByteArray), runS (acc ++ x, t) bs = (acc ++ (runS (x, t) bs).1, (runS (x, t) bs).2)
  | [], acc, x, t => rfl
  | b :: r, acc, x, t => by
    rw [runS, runS]
    dsimp only
    rw [List.append_assoc, runS_acc r]
theorem runS_may : ∀ (bs : List Int) (st : List Int × ByteArray), (st.2 = E0 ∨ partS st.2 = true) → ((runS st bs).2 = E0 ∨ partS (runS st bs).2 = true)
  | [], st, h => h
  | b :: r, st, h => by rw [runS]; exact runS_may r _ (stepS_may _ _)
theorem bytesL_ext (s : ByteArray) (a b : Nat) : bytesL (s.extract a b) = ((bytesL s).take b).drop a := by
  unfold bytesL
  simp only [ByteArray.data_extract, Array.toList_extract, List.extract_eq_take_drop, List.map_take, List.map_drop, List.drop_take]
theorem runS_split (s : ByteArray) (k : Nat) (hk : k ≤ s.size) (st : List Int × ByteArray) : runS (runS st (bytesL (s.extract 0 k))) (bytesL (s.extract k s.size)) = runS st (bytesL s) := by
  rw [← runS_app, bytesL_ext, bytesL_ext, List.drop_zero]
  congr 1
  have e : (bytesL s).take s.size = bytesL s := List.take_of_length_le (by rw [bytesL_len]; exact Nat.le_refl _)
  rw [e, List.take_append_drop]
theorem allP_E (s : ByteArray) : allP E0 s = ((runS ([], E0) (bytesL s)).1, (runS ([], E0) (bytesL s)).2, 0) := allP_may (.inl rfl)
theorem str_app (l m : List Int) : strBytes l ++ strBytes m = strBytes (l ++ m) := by
  apply ByteArray.ext
  simp [strBytes, ByteArray.data_append]
theorem bt_str {l : List Int} (h : ∀ b ∈ l, 0 ≤ b ∧ b < 256) {k : Nat} (hk : k < l.length) : bt (strBytes l) k = l[k] := by
  have := h _ (List.getElem_mem hk)
  unfold bt strBytes
  simp [List.getElem?_eq_getElem hk]
  omega
theorem str1 {a : Int} (ha : 0 ≤ a ∧ a < 256) : bt (strBytes [a]) 0 = a := bt_str (by simp; exact ha) (by simp)
theorem str2 {a b : Int} (ha : 0 ≤ a ∧ a < 256) (hb : 0 ≤ b ∧ b < 256) : bt (strBytes [a, b]) 0 = a ∧ bt (strBytes [a, b]) 1 = b := ⟨bt_str (by simp; omega) (by simp), bt_str (by simp; omega) (by simp)⟩
theorem str3 {a b c : Int} (ha : 0 ≤ a ∧ a < 256) (hb : 0 ≤ b ∧ b < 256) (hc : 0 ≤ c ∧ c < 256) : bt (strBytes [a, b, c]) 0 = a ∧ bt (strBytes [a, b, c]) 1 = b ∧ bt (strBytes [a, b, c]) 2 = c :=
  ⟨bt_str (by simp; omega) (by simp), bt_str (by simp; omega) (by simp), bt_str (by simp; omega) (by simp)⟩
theorem str4 {a b c d : Int} (ha : 0 ≤ a ∧ a < 256) (hb : 0 ≤ b ∧ b < 256) (hc : 0 ≤ c ∧ c < 256) (hd : 0 ≤ d ∧ d < 256) : bt (strBytes [a, b, c, d]) 0 = a ∧ bt (strBytes [a, b, c, d]) 1 = b ∧ bt (strBytes [a, b, c, d]) 2 = c ∧ bt (strBytes [a, b, c, d]) 3 = d :=
  ⟨bt_str (by simp; omega) (by simp), bt_str (by simp; omega) (by simp), bt_str (by simp; omega) (by simp), bt_str (by simp; omega) (by simp)⟩
theorem decode_at {s : ByteArray} {i : Nat} : Utf8.decode s i = decN (s.size - i) (bt s i).toNat (bt s (i + 1)).toNat (bt s (i + 2)).toNat (bt s (i + 3)).toNat := by
  rw [bt_nat, bt_nat, bt_nat, bt_nat]
  have e : ∀ k, decide (i + k < s.size) = decide (k < s.size - i) := fun k => by congr 1; apply propext; omega
  unfold Utf8.decode decN
  simp only [Nat.add_zero, e]
theorem dec_inv {n x0 x1 x2 x3 : Nat} (h : (decN n x0 x1 x2 x3).1 ≠ 65533 ∨ 3 ≤ (decN n x0 x1 x2 x3).2) :
    (x0 < 128 ∧ decN n x0 x1 x2 x3 = (x0, 1)) ∨ (1 < n ∧ 194 ≤ x0 ∧ x0 ≤ 223 ∧ x1 / 64 = 2 ∧ decN n x0 x1 x2 x3 = (x0 % 32 * 64 + x1 % 64, 2)) ∨
    (2 < n ∧ 224 ≤ x0 ∧ x0 ≤ 239 ∧ x1 / 64 = 2 ∧ x2 / 64 = 2 ∧ (x0 = 224 → 160 ≤ x1) ∧ (x0 = 237 → x1 ≤ 159) ∧ decN n x0 x1 x2 x3 = (x0 % 16 * 4096 + x1 % 64 * 64 + x2 % 64, 3)) ∨
    (3 < n ∧ 240 ≤ x0 ∧ x0 ≤ 244 ∧ x1 / 64 = 2 ∧ x2 / 64 = 2 ∧ x3 / 64 = 2 ∧ (x0 = 240 → 144 ≤ x1) ∧ (x0 = 244 → x1 ≤ 143) ∧ decN n x0 x1 x2 x3 = (x0 % 8 * 262144 + x1 % 64 * 4096 + x2 % 64 * 64 + x3 % 64, 4)) := by
  generalize hd : decN n x0 x1 x2 x3 = d at h ⊢
  unfold decN at hd
  split at hd
  · rename_i c1
    exact .inl ⟨c1, hd.symm⟩
  · split at hd
    · rename_i c1 c2
      simp at c2
      split at hd
      · exact .inr (.inl ⟨by omega, by omega, by omega, by omega, hd.symm⟩)
      · subst hd; simp [Utf8.runeError] at h
    · split at hd
      · rename_i c1 c2 c3
        simp at c3
        split at hd
        · rename_i c4
          simp [Utf8.valid] at c4
          exact .inr (.inr (.inl ⟨by omega, by omega, by omega, by omega, by omega, by omega, by omega, hd.symm⟩))
        · subst hd; simp [Utf8.runeError] at h
      · split at hd
        · rename_i c1 c2 c3 c4
          simp at c4
          split at hd
          · rename_i c5
            simp [Utf8.valid] at c5
            exact .inr (.inr (.inr ⟨by omega, by omega, by omega, by omega, by omega, by omega, by omega, by omega, hd.symm⟩))
          · subst hd; simp [Utf8.runeError] at h
        · subst hd; simp [Utf8.runeError] at h
theorem E0_ne {l : List Int} (h : l ≠ []) : strBytes l ≠ E0 := by
  intro e
  have e := congrArg ByteArray.size e
  rw [strBytes_size] at e
  exact h (List.length_eq_zero_iff.1 e)
theorem step_first {a : Int} (h0 : 194 ≤ a) (h1 : a ≤ 244) : stepS E0 a = ([], strBytes [a]) := by
  have hb := str1 (a := a) (by omega)
  rw [stepS, if_pos rfl, beginS, if_neg (by omega), if_pos]
  unfold partS
  rw [hb]
  apply decide_eq_true
  refine ⟨by rw [strBytes_size]; simp, ?_, fun e => ?_, fun e => ?_⟩
  · rw [strBytes_size]; unfold needS; repeat' split
    all_goals simp
    all_goals omega
  · rw [strBytes_size] at e; simp at e
  · rw [strBytes_size] at e; simp at e
theorem step_low {a : Int} (h : a < 128) : stepS E0 a = ([a], E0) := by
  rw [stepS, if_pos rfl, beginS, if_pos h]
theorem step2 {a b : Int} (h0 : 194 ≤ a) (h1 : a ≤ 223) (h2 : 128 ≤ b) (h3 : b ≤ 191) : stepS (strBytes [a]) b = ([a % 32 * 64 + b % 64], E0) := by
  have hb := str2 (a := a) (b := b) (by omega) (by omega)
  rw [stepS, if_neg (E0_ne (by simp)), str_app, List.singleton_append, if_neg, if_pos]
  · have e : Lib.decodeGo (strBytes [a, b]) = ((a.toNat % 32 * 64 + b.toNat % 64), 2) := by
      unfold Lib.decodeGo
      rw [if_neg (by rw [strBytes_size]; simp), decode_decN, hb.1, hb.2, strBytes_size]
      exact dec2 (by omega) (by omega) (by omega) (by omega)
    rw [e]
    simp only [Prod.mk.injEq, List.cons.injEq, and_true]
    omega
  · have e : Lib.decodeGo (strBytes [a, b]) = ((a.toNat % 32 * 64 + b.toNat % 64), 2) := by
      unfold Lib.decodeGo
      rw [if_neg (by rw [strBytes_size]; simp), decode_decN, hb.1, hb.2, strBytes_size]
      exact dec2 (by omega) (by omega) (by omega) (by omega)
    rw [e, strBytes_size]; rfl
  · intro hc
    unfold partS at hc
    obtain ⟨_, c2, _⟩ := of_decide_eq_true hc
    rw [strBytes_size, hb.1] at c2
    have : needS a = 2 := by unfold needS; rw [if_pos (by omega)]
    simp at c2
    omega
theorem sec_of {a b : Int} (h2 : 128 ≤ b) (h3 : b ≤ 191) (h4 : a = 224 → 160 ≤ b) (h5 : a = 237 → b ≤ 159) (h6 : a = 240 → 144 ≤ b) (h7 : a = 244 → b ≤ 143) : secondS a b = true := by
  unfold secondS
  apply decide_eq_true
  constructor
  · repeat' split
    all_goals omega
  · repeat' split
    all_goals omega
theorem step_mid {a b : Int} (h0 : 224 ≤ a) (h1 : a ≤ 244) (h2 : 128 ≤ b) (h3 : b ≤ 191) (hs : secondS a b = true) : stepS (strBytes [a]) b = ([], strBytes [a, b]) := by
  have hb := str2 (a := a) (b := b) (by omega) (by omega)
  rw [stepS, if_neg (E0_ne (by simp)), str_app, List.singleton_append, if_pos]
  unfold partS
  rw [hb.1, hb.2, strBytes_size]
  apply decide_eq_true
  refine ⟨by simp, ?_, fun _ => hs, fun e => by simp at e⟩
  unfold needS; repeat' split
  all_goals simp
  all_goals omega
theorem step3 {a b c : Int} (h0 : 224 ≤ a) (h1 : a ≤ 239) (h2 : 128 ≤ b) (h3 : b ≤ 191) (h4 : a = 224 → 160 ≤ b) (h5 : a = 237 → b ≤ 159) (h6 : 128 ≤ c) (h7 : c ≤ 191) : stepS (strBytes [a, b]) c = ([a % 16 * 4096 + b % 64 * 64 + c % 64], E0) := by
  have hb := str3 (a := a) (b := b) (c := c) (by omega) (by omega) (by omega)
  have e : Lib.decodeGo (strBytes [a, b, c]) = ((a.toNat % 16 * 4096 + b.toNat % 64 * 64 + c.toNat % 64), 3) := by
    unfold Lib.decodeGo
    rw [if_neg (by rw [strBytes_size]; simp), decode_decN, hb.1, hb.2.1, hb.2.2, strBytes_size]
    exact dec3 (by omega) (by omega) (by omega) (by omega) (by omega) (by omega) (by omega) (by omega)
  rw [stepS, if_neg (E0_ne (by simp)), str_app, show [a, b] ++ [c] = [a, b, c] from rfl, if_neg, if_pos]
  · rw [e]
    simp only [Prod.mk.injEq, List.cons.injEq, and_true]
    omega
  · rw [e, strBytes_size]; rfl
  · intro hc
    unfold partS at hc
    obtain ⟨_, c2, _⟩ := of_decide_eq_true hc
    rw [strBytes_size, hb.1] at c2
    have : needS a = 3 := by unfold needS; rw [if_neg (by omega), if_pos (by omega)]
    simp at c2
    omega
theorem step_mid3 {a b c : Int} (h0 : 240 ≤ a) (h1 : a ≤ 244) (h2 : 128 ≤ b) (h3 : b ≤ 191) (hs : secondS a b = true) (h6 : 128 ≤ c) (h7 : c ≤ 191) : stepS (strBytes [a, b]) c = ([], strBytes [a, b, c]) := by
  have hb := str3 (a := a) (b := b) (c := c) (by omega) (by omega) (by omega)
  rw [stepS, if_neg (E0_ne (by simp)), str_app, show [a, b] ++ [c] = [a, b, c] from rfl, if_pos]
  unfold partS
  rw [hb.1, hb.2.1, hb.2.2, strBytes_size]
  apply decide_eq_true
  refine ⟨by simp, ?_, fun _ => hs, fun _ => ⟨h6, h7⟩⟩
  unfold needS
  rw [if_neg (by omega), if_neg (by omega), if_pos (by omega)]
  simp
theorem step4 {a b c d : Int} (h0 : 240 ≤ a) (h1 : a ≤ 244) (h2 : 128 ≤ b) (h3 : b ≤ 191) (h4 : a = 240 → 144 ≤ b) (h5 : a = 244 → b ≤ 143) (h6 : 128 ≤ c) (h7 : c ≤ 191) (h8 : 128 ≤ d) (h9 : d ≤ 191) : stepS (strBytes [a, b, c]) d = ([a % 8 * 262144 + b % 64 * 4096 + c % 64 * 64 + d % 64], E0) := by
  have hb := str4 (a := a) (b := b) (c := c) (d := d) (by omega) (by omega) (by omega) (by omega)
  have e : Lib.decodeGo (strBytes [a, b, c, d]) = ((a.toNat % 8 * 262144 + b.toNat % 64 * 4096 + c.toNat % 64 * 64 + d.toNat % 64), 4) := by
    unfold Lib.decodeGo
    rw [if_neg (by rw [strBytes_size]; simp), decode_decN, hb.1, hb.2.1, hb.2.2.1, hb.2.2.2, strBytes_size]
    exact dec4 (by omega) (by omega) (by omega) (by omega) (by omega) (by omega) (by omega) (by omega) (by omega) (by omega)
  rw [stepS, if_neg (E0_ne (by simp)), str_app, show [a, b, c] ++ [d] = [a, b, c, d] from rfl, if_neg, if_pos]
  · rw [e]
    simp only [Prod.mk.injEq, List.cons.injEq, and_true]
    omega
  · rw [e, strBytes_size]; rfl
  · intro hc
    unfold partS at hc
    obtain ⟨_, c2, _⟩ := of_decide_eq_true hc
    rw [strBytes_size, hb.1] at c2
    have : needS a = 4 := by unfold needS; rw [if_neg (by omega), if_neg (by omega), if_pos (by omega)]
    simp at c2
    omega
/-- a rune that is read is the one that its bytes make -/
theorem run_dec {s : ByteArray} {i : Nat} (hp : i < s.size) (acc : List Int) (hok : (Utf8.decode s i).1 ≠ 65533 ∨ 3 ≤ (Utf8.decode s i).2) :
    runS (acc, E0) ((bytesL s).drop i) = runS (acc ++ [((Utf8.decode s i).1 : Int)], E0) ((bytesL s).drop (i + (Utf8.decode s i).2)) := by
  rw [decode_at] at hok ⊢
  have r0 := bt_range s i
  have r1 := bt_range s (i + 1)
  have r2 := bt_range s (i + 2)
  have r3 := bt_range s (i + 3)
  rcases dec_inv hok with ⟨h0, e⟩ | ⟨hn, h0, h1, h2, e⟩ | ⟨hn, h0, h1, h2, h3, h4, h5, e⟩ | ⟨hn, h0, h1, h2, h3, h4, h5, h6, e⟩
  all_goals rw [e]; dsimp only
  · rw [drop_bytes hp, runS]
    dsimp only
    rw [step_low (by omega)]
    first
      | done
      | (dsimp only; refine congrArg (fun x => runS (acc ++ [x], E0) _) ?_; omega)
  · rw [drop_bytes hp, drop_bytes (by omega)]
    simp only [Nat.add_assoc, Nat.reduceAdd]
    rw [runS, runS]
    dsimp only
    rw [step_first (by omega) (by omega)]
    dsimp only
    rw [step2 (by omega) (by omega) (by omega) (by omega), List.append_nil]
    first
      | done
      | (dsimp only; refine congrArg (fun x => runS (acc ++ [x], E0) _) ?_; omega)
  · rw [drop_bytes hp, drop_bytes (by omega), drop_bytes (by omega)]
    simp only [Nat.add_assoc, Nat.reduceAdd]
    rw [runS, runS, runS]
    dsimp only
    rw [step_first (by omega) (by omega)]
    dsimp only
    rw [step_mid (by omega) (by omega) (by omega) (by omega) (sec_of (by omega) (by omega) (by omega) (by omega) (by omega) (by omega))]
    dsimp only
    rw [step3 (by omega) (by omega) (by omega) (by omega) (by omega) (by omega) (by omega) (by omega), List.append_nil, List.append_nil]
    first
      | done
      | (dsimp only; refine congrArg (fun x => runS (acc ++ [x], E0) _) ?_; omega)
  · rw [drop_bytes hp, drop_bytes (by omega), drop_bytes (by omega), drop_bytes (by omega)]
    simp only [Nat.add_assoc, Nat.reduceAdd]
    rw [runS, runS, runS, runS]
    dsimp only
    rw [step_first (by omega) (by omega)]
    dsimp only
    rw [step_mid (by omega) (by omega) (by omega) (by omega) (sec_of (by omega) (by omega) (by omega) (by omega) (by omega) (by omega))]
    dsimp only
    rw [step_mid3 (by omega) (by omega) (by omega) (by omega) (sec_of (by omega) (by omega) (by omega) (by omega) (by omega) (by omega)) (by omega) (by omega)]
    dsimp only
    rw [step4 (by omega) (by omega) (by omega) (by omega) (by omega) (by omega) (by omega) (by omega) (by omega) (by omega), List.append_nil, List.append_nil, List.append_nil]
    first
      | done
      | (dsimp only; refine congrArg (fun x => runS (acc ++ [x], E0) _) ?_; omega)
theorem dec_pos {s : ByteArray} {i : Nat} (hp : i < s.size) : 1 ≤ (Utf8.decode s i).2 ∧ i + (Utf8.decode s i).2 ≤ s.size ∧ (Utf8.decode s i).1 < 3000000 := by
  rw [decode_at]
  have r0 := bt_range s i
  have r1 := bt_range s (i + 1)
  have r2 := bt_range s (i + 2)
  have r3 := bt_range s (i + 3)
  have er : Utf8.runeError = 65533 := rfl
  unfold decN
  split
  · dsimp only; omega
  · split
    · rename_i c; simp at c
      split
      · dsimp only; omega
      · dsimp only; omega
    · split
      · rename_i c; simp at c
        split
        · dsimp only; omega
        · dsimp only; omega
      · split
        · rename_i c; simp at c
          split
          · dsimp only; omega
          · dsimp only; omega
        · dsimp only; omega
noncomputable def e_cpN3 : List (FuncId × Con) := (17, cpNCon) :: e_ubytes
theorem e_cpN3_ok : ConsOk Tryd.prog (look e_cpN3) := cons_cons e_ubytes_ok cpN_ok
noncomputable def usplitsCon : Con := ⟨[.g [some .str]], fun ags M K => match ags, M with
  | [.agg [.lt .str l]], [] => (l.length ≤ 140737488351232 ∧ ∀ s ∈ (l : List ByteArray), s.size ≤ 140737488351232) ∧ (K (.b true) [])
  | _, _ => False⟩
theorem usplits_vc (l : List ByteArray) (K : AV → List Blk → Prop) : (evFn (env e_cpN3) Tryd.f4 ({ cfg0 with rt := some rtB, lp := fun r => match r with | 4 => some { X := Nat, fr := fun x => [(1, .ptr 0 0), (3, .i x)], M := fun x => [.flat [.lt .str l]], inv := fun x => x ≤ l.length, mu := fun x => l.length - x } | 12 => some { X := Nat × Nat × ByteArray × List Int × ByteArray, fr := fun x => [(1, .ptr 0 0), (3, .i x.1), (4, .s x.2.2.1), (5, .own 1), (6, .s x.2.2.2.2), (8, .i x.2.1)], M := fun x => [.flat [.lt .str l], ints x.2.2.2.1], inv := fun _ => True, rel := fun x0 x => x.2.1 ≤ x.2.2.1.size + 1 ∧ x.1 = x0.1 ∧ x.2.2 = x0.2.2, mu := fun x => x.2.2.1.size + 1 - x.2.1 } | 21 => some { X := Nat × Nat × ByteArray × List Int × ByteArray × List Int × Bool, fr := fun x => [(1, .ptr 0 0), (3, .i x.1), (4, .s x.2.2.1), (5, .own 1), (6, .s x.2.2.2.2.1), (15, .own 3), (16, .b x.2.2.2.2.2.2), (95, .ptr 2 0)], M := fun x => [.flat [.lt .str l], ints x.2.2.2.1, .strIt x.2.2.1 x.2.1, ints x.2.2.2.2.2.1], inv := fun _ => True, rel := fun x0 x => x.1 = x0.1 ∧ x.2.2.1 = x0.2.2.1 ∧ x.2.2.2.1 = x0.2.2.2.1 ∧ x.2.2.2.2.1 = x0.2.2.2.2.1 ∧ x.2.1 ≤ x.2.2.1.size ∧ x.2.2.2.2.2.1.length ≤ x.2.1 ∧ (x.2.2.2.2.2.2 = true → runS ([], E0) (bytesL x.2.2.1) = runS (x.2.2.2.2.2.1, E0) ((bytesL x.2.2.1).drop x.2.1)), mu := fun x => x.2.2.1.size - x.2.1 } | _ => none }) [.agg [.lt .str l]] [] K) = (
  (l.length ≤ 140737488351232 ∧ ∀ (s : El Kd.str), s ∈ l → ByteArray.size s ≤ 140737488351232) ∧ ∀ (r : Bool), (r = false → ∀ (s : El Kd.str), s ∈ l → ByteArray.size s ≤
  4000) → (r = true → ∃ (x : Bool), x = true ∧ Leaf rtB K x) ∧ (r = false → ∃ (x0 : Nat), x0 ≤ l.length ∧ l = l ∧ 0 = 0 ∧ (0 : Int) = (↑x0 : Int) ∧ ∀ (x : Nat), x ≤
  l.length → (decide ((↑x : Int) < (↑l.length : Int)) = true → (decide ((↑x : Int) < (6 : Int)) = true → ((0 : Int) ≤ (↑x : Int) ∧ (↑x : Int) < (↑l.length : Int)) ∧ (decide
  ((200 : Int) < (↑(ByteArray.size (gt Kd.str l (↑x : Int).toNat)) : Int)) = true → ∃ (x' : Nat), (x' ≤ l.length ∧ l.length - x' < l.length - x) ∧ l = l ∧ 0 = 0 ∧
  IntKind.i64.wrap ((↑x : Int) + (1 : Int)) = (↑x' : Int) ∧ True) ∧ (decide ((200 : Int) < (↑(ByteArray.size (gt Kd.str l (↑x : Int).toNat)) : Int)) = false →
  (ByteArray.size (gt Kd.str l (↑x : Int).toNat) ≤ 900000 ∧ 0 ≤ 10000) ∧ ∀ (l_1 : List Int) (t : ByteArray) (e : Int), (l_1, t, e) = allP (ByteArray.mk #[]) (gt Kd.str l
  (↑x : Int).toNat) → ((!decide (e = (0 : Int))) = true → ∃ (x : Bool), x = false ∧ Leaf rtB K x) ∧ ((!decide (e = (0 : Int))) = false → ∃ (x0 : Nat × Nat × ByteArray ×
  List Int × ByteArray), (x0.snd.fst ≤ x0.snd.snd.fst.size + 1 ∧ x0.fst = x0.fst ∧ x0.snd.snd = x0.snd.snd) ∧ l = l ∧ l_1 = x0.snd.snd.snd.fst ∧ 0 = 0 ∧ (↑x : Int) =
  (↑x0.fst : Int) ∧ gt Kd.str l (↑x : Int).toNat = x0.snd.snd.fst ∧ t = x0.snd.snd.snd.snd ∧ (0 : Int) = (↑x0.snd.fst : Int) ∧ ∀ (x_1 : Nat × Nat × ByteArray × List Int ×
  ByteArray), x_1.snd.fst ≤ x_1.snd.snd.fst.size + 1 ∧ x_1.fst = x0.fst ∧ x_1.snd.snd = x0.snd.snd → (decide ((↑x_1.snd.fst : Int) ≤ (↑x_1.snd.snd.fst.size : Int)) = true →
  ((0 : Int) ≤ none.getD (0 : Int) ∧ none.getD (0 : Int) ≤ (some (↑x_1.snd.fst : Int)).getD (↑x_1.snd.snd.fst.size : Int) ∧ (some (↑x_1.snd.fst : Int)).getD
  (↑x_1.snd.snd.fst.size : Int) ≤ (↑x_1.snd.snd.fst.size : Int)) ∧ ((x_1.snd.snd.fst.extract 0 ((some (↑x_1.snd.fst : Int)).getD (↑x_1.snd.snd.fst.size : Int)).toNat).size
  ≤ 900000 ∧ 0 ≤ 10000) ∧ ∀ (l_2 : List Int) (t : ByteArray) (e : Int), (l_2, t, e) = allP (ByteArray.mk #[]) (x_1.snd.snd.fst.extract 0 ((some (↑x_1.snd.fst : Int)).getD
  (↑x_1.snd.snd.fst.size : Int)).toNat) → ((0 : Int) ≤ (some (↑x_1.snd.fst : Int)).getD (0 : Int) ∧ (some (↑x_1.snd.fst : Int)).getD (0 : Int) ≤ none.getD
  (↑x_1.snd.snd.fst.size : Int) ∧ none.getD (↑x_1.snd.snd.fst.size : Int) ≤ (↑x_1.snd.snd.fst.size : Int)) ∧ ((x_1.snd.snd.fst.extract ((some (↑x_1.snd.fst : Int)).getD (0
  : Int)).toNat (none.getD (↑x_1.snd.snd.fst.size : Int)).toNat).size ≤ 900000 ∧ t.size ≤ 10000) ∧ ∀ (l_3 : List Int) (t_1 : ByteArray) (e_1 : Int), (l_3, t_1, e_1) = allP
  t (x_1.snd.snd.fst.extract ((some (↑x_1.snd.fst : Int)).getD (0 : Int)).toNat (none.getD (↑x_1.snd.snd.fst.size : Int)).toNat) → ((!decide (e = (0 : Int))) = true → ∃ (x
  : Bool), x = false ∧ Leaf rtB K x) ∧ ((!decide (e = (0 : Int))) = false → ((!decide (e_1 = (0 : Int))) = true → ∃ (x : Bool), x = false ∧ Leaf rtB K x) ∧ ((!decide (e_1 =
  (0 : Int))) = false → ((!decide (t_1 = x_1.snd.snd.snd.snd)) = true → ∃ (x : Bool), x = false ∧ Leaf rtB K x) ∧ ((!decide (t_1 = x_1.snd.snd.snd.snd)) = false →
  l_2.length ≤ 100000000 ∧ (l_2.length + l_3.length ≤ 140737488355328 ∧ (l_2.length + l_3.length) * 8 ≤ 140737488355328) ∧ (l_2 ++ l_3).length ≤ 4611686018427387904 ∧ ∀ (r
  : Bool), r = decide (l_2 ++ l_3 = x_1.snd.snd.snd.fst) → ((!r) = true → ∃ (x : Bool), x = false ∧ Leaf rtB K x) ∧ ((!r) = false → ∃ (x' : Nat × Nat × ByteArray × List Int
  × ByteArray), ((x'.snd.fst ≤ x'.snd.snd.fst.size + 1 ∧ x'.fst = x0.fst ∧ x'.snd.snd = x0.snd.snd) ∧ x'.snd.snd.fst.size + 1 - x'.snd.fst < x_1.snd.snd.fst.size + 1 -
  x_1.snd.fst) ∧ l = l ∧ x_1.snd.snd.snd.fst = x'.snd.snd.snd.fst ∧ 0 = 0 ∧ (↑x_1.fst : Int) = (↑x'.fst : Int) ∧ x_1.snd.snd.fst = x'.snd.snd.fst ∧ x_1.snd.snd.snd.snd =
  x'.snd.snd.snd.snd ∧ IntKind.i64.wrap ((↑x_1.snd.fst : Int) + (1 : Int)) = (↑x'.snd.fst : Int) ∧ True))))) ∧ (decide ((↑x_1.snd.fst : Int) ≤ (↑x_1.snd.snd.fst.size :
  Int)) = false → ∃ (x0 : Nat × Nat × ByteArray × List Int × ByteArray × List Int × Bool), (x0.fst = x0.fst ∧ x0.snd.snd.fst = x0.snd.snd.fst ∧ x0.snd.snd.snd.fst =
  x0.snd.snd.snd.fst ∧ x0.snd.snd.snd.snd.fst = x0.snd.snd.snd.snd.fst ∧ x0.snd.fst ≤ x0.snd.snd.fst.size ∧ x0.snd.snd.snd.snd.snd.fst.length ≤ x0.snd.fst ∧
  (x0.snd.snd.snd.snd.snd.snd = true → runS ([], E0) (bytesL x0.snd.snd.fst) = runS (x0.snd.snd.snd.snd.snd.fst, E0) (List.drop x0.snd.fst (bytesL x0.snd.snd.fst)))) ∧ l =
  l ∧ x_1.snd.snd.snd.fst = x0.snd.snd.snd.fst ∧ (x_1.snd.snd.fst = x0.snd.snd.fst ∧ 0 = x0.snd.fst) ∧ [] = x0.snd.snd.snd.snd.snd.fst ∧ 0 = 0 ∧ (↑x_1.fst : Int) = (↑x0.fst
  : Int) ∧ x_1.snd.snd.fst = x0.snd.snd.fst ∧ x_1.snd.snd.snd.snd = x0.snd.snd.snd.snd.fst ∧ x0.snd.snd.snd.snd.snd.snd = true ∧ 0 = 0 ∧ ∀ (x_2 : Nat × Nat × ByteArray ×
  List Int × ByteArray × List Int × Bool), x_2.fst = x0.fst ∧ x_2.snd.snd.fst = x0.snd.snd.fst ∧ x_2.snd.snd.snd.fst = x0.snd.snd.snd.fst ∧ x_2.snd.snd.snd.snd.fst =
  x0.snd.snd.snd.snd.fst ∧ x_2.snd.fst ≤ x_2.snd.snd.fst.size ∧ x_2.snd.snd.snd.snd.snd.fst.length ≤ x_2.snd.fst ∧ (x_2.snd.snd.snd.snd.snd.snd = true → runS ([], E0)
  (bytesL x_2.snd.snd.fst) = runS (x_2.snd.snd.snd.snd.snd.fst, E0) (List.drop x_2.snd.fst (bytesL x_2.snd.snd.fst))) → (x_2.snd.fst < x_2.snd.snd.fst.size → (decide
  ((↑(Utf8.decode x_2.snd.snd.fst x_2.snd.fst).fst : Int) = (65533 : Int)) = true → (decide (IntKind.i64.wrap ((↑x_2.snd.snd.fst.size : Int) - (↑x_2.snd.fst : Int)) < (3 :
  Int)) = true → (x_2.snd.snd.snd.snd.snd.fst.length + [IntKind.i64.wrap (↑(Utf8.decode x_2.snd.snd.fst x_2.snd.fst).fst : Int)].length ≤ 140737488355328 ∧
  (x_2.snd.snd.snd.snd.snd.fst.length + [IntKind.i64.wrap (↑(Utf8.decode x_2.snd.snd.fst x_2.snd.fst).fst : Int)].length) * 8 ≤ 140737488355328) ∧ ∃ (x' : Nat × Nat ×
  ByteArray × List Int × ByteArray × List Int × Bool), ((x'.fst = x0.fst ∧ x'.snd.snd.fst = x0.snd.snd.fst ∧ x'.snd.snd.snd.fst = x0.snd.snd.snd.fst ∧
  x'.snd.snd.snd.snd.fst = x0.snd.snd.snd.snd.fst ∧ x'.snd.fst ≤ x'.snd.snd.fst.size ∧ x'.snd.snd.snd.snd.snd.fst.length ≤ x'.snd.fst ∧ (x'.snd.snd.snd.snd.snd.snd = true →
  runS ([], E0) (bytesL x'.snd.snd.fst) = runS (x'.snd.snd.snd.snd.snd.fst, E0) (List.drop x'.snd.fst (bytesL x'.snd.snd.fst)))) ∧ x'.snd.snd.fst.size - x'.snd.fst <
  x_2.snd.snd.fst.size - x_2.snd.fst) ∧ l = l ∧ x_2.snd.snd.snd.fst = x'.snd.snd.snd.fst ∧ (x_2.snd.snd.fst = x'.snd.snd.fst ∧ x_2.snd.fst + (Utf8.decode x_2.snd.snd.fst
  x_2.snd.fst).snd = x'.snd.fst) ∧ x_2.snd.snd.snd.snd.snd.fst ++ [IntKind.i64.wrap (↑(Utf8.decode x_2.snd.snd.fst x_2.snd.fst).fst : Int)] = x'.snd.snd.snd.snd.snd.fst ∧ 0
  = 0 ∧ (↑x_2.fst : Int) = (↑x'.fst : Int) ∧ x_2.snd.snd.fst = x'.snd.snd.fst ∧ x_2.snd.snd.snd.snd.fst = x'.snd.snd.snd.snd.fst ∧ x'.snd.snd.snd.snd.snd.snd = false ∧ 0 =
  0 ∧ True) ∧ (decide (IntKind.i64.wrap ((↑x_2.snd.snd.fst.size : Int) - (↑x_2.snd.fst : Int)) < (3 : Int)) = false → ((0 : Int) ≤ (some (↑x_2.snd.fst : Int)).getD (0 :
  Int) ∧ (some (↑x_2.snd.fst : Int)).getD (0 : Int) ≤ (some (IntKind.i64.wrap ((↑x_2.snd.fst : Int) + (3 : Int)))).getD (↑x_2.snd.snd.fst.size : Int) ∧ (some
  (IntKind.i64.wrap ((↑x_2.snd.fst : Int) + (3 : Int)))).getD (↑x_2.snd.snd.fst.size : Int) ≤ (↑x_2.snd.snd.fst.size : Int)) ∧ ((!decide (x_2.snd.snd.fst.extract ((some
  (↑x_2.snd.fst : Int)).getD (0 : Int)).toNat ((some (IntKind.i64.wrap ((↑x_2.snd.fst : Int) + (3 : Int)))).getD (↑x_2.snd.snd.fst.size : Int)).toNat = ByteArray.mk #[(239
  : UInt8), (191 : UInt8), (189 : UInt8)])) = true → (x_2.snd.snd.snd.snd.snd.fst.length + [IntKind.i64.wrap (↑(Utf8.decode x_2.snd.snd.fst x_2.snd.fst).fst : Int)].length
  ≤ 140737488355328 ∧ (x_2.snd.snd.snd.snd.snd.fst.length + [IntKind.i64.wrap (↑(Utf8.decode x_2.snd.snd.fst x_2.snd.fst).fst : Int)].length) * 8 ≤ 140737488355328) ∧ ∃ (x'
  : Nat × Nat × ByteArray × List Int × ByteArray × List Int × Bool), ((x'.fst = x0.fst ∧ x'.snd.snd.fst = x0.snd.snd.fst ∧ x'.snd.snd.snd.fst = x0.snd.snd.snd.fst ∧
  x'.snd.snd.snd.snd.fst = x0.snd.snd.snd.snd.fst ∧ x'.snd.fst ≤ x'.snd.snd.fst.size ∧ x'.snd.snd.snd.snd.snd.fst.length ≤ x'.snd.fst ∧ (x'.snd.snd.snd.snd.snd.snd = true →
  runS ([], E0) (bytesL x'.snd.snd.fst) = runS (x'.snd.snd.snd.snd.snd.fst, E0) (List.drop x'.snd.fst (bytesL x'.snd.snd.fst)))) ∧ x'.snd.snd.fst.size - x'.snd.fst <
  x_2.snd.snd.fst.size - x_2.snd.fst) ∧ l = l ∧ x_2.snd.snd.snd.fst = x'.snd.snd.snd.fst ∧ (x_2.snd.snd.fst = x'.snd.snd.fst ∧ x_2.snd.fst + (Utf8.decode x_2.snd.snd.fst
  x_2.snd.fst).snd = x'.snd.fst) ∧ x_2.snd.snd.snd.snd.snd.fst ++ [IntKind.i64.wrap (↑(Utf8.decode x_2.snd.snd.fst x_2.snd.fst).fst : Int)] = x'.snd.snd.snd.snd.snd.fst ∧ 0
  = 0 ∧ (↑x_2.fst : Int) = (↑x'.fst : Int) ∧ x_2.snd.snd.fst = x'.snd.snd.fst ∧ x_2.snd.snd.snd.snd.fst = x'.snd.snd.snd.snd.fst ∧ x'.snd.snd.snd.snd.snd.snd = false ∧ 0 =
  0 ∧ True) ∧ ((!decide (x_2.snd.snd.fst.extract ((some (↑x_2.snd.fst : Int)).getD (0 : Int)).toNat ((some (IntKind.i64.wrap ((↑x_2.snd.fst : Int) + (3 : Int)))).getD
  (↑x_2.snd.snd.fst.size : Int)).toNat = ByteArray.mk #[(239 : UInt8), (191 : UInt8), (189 : UInt8)])) = false → (x_2.snd.snd.snd.snd.snd.fst.length + [IntKind.i64.wrap
  (↑(Utf8.decode x_2.snd.snd.fst x_2.snd.fst).fst : Int)].length ≤ 140737488355328 ∧ (x_2.snd.snd.snd.snd.snd.fst.length + [IntKind.i64.wrap (↑(Utf8.decode x_2.snd.snd.fst
  x_2.snd.fst).fst : Int)].length) * 8 ≤ 140737488355328) ∧ ∃ (x' : Nat × Nat × ByteArray × List Int × ByteArray × List Int × Bool), ((x'.fst = x0.fst ∧ x'.snd.snd.fst =
  x0.snd.snd.fst ∧ x'.snd.snd.snd.fst = x0.snd.snd.snd.fst ∧ x'.snd.snd.snd.snd.fst = x0.snd.snd.snd.snd.fst ∧ x'.snd.fst ≤ x'.snd.snd.fst.size ∧
  x'.snd.snd.snd.snd.snd.fst.length ≤ x'.snd.fst ∧ (x'.snd.snd.snd.snd.snd.snd = true → runS ([], E0) (bytesL x'.snd.snd.fst) = runS (x'.snd.snd.snd.snd.snd.fst, E0)
  (List.drop x'.snd.fst (bytesL x'.snd.snd.fst)))) ∧ x'.snd.snd.fst.size - x'.snd.fst < x_2.snd.snd.fst.size - x_2.snd.fst) ∧ l = l ∧ x_2.snd.snd.snd.fst =
  x'.snd.snd.snd.fst ∧ (x_2.snd.snd.fst = x'.snd.snd.fst ∧ x_2.snd.fst + (Utf8.decode x_2.snd.snd.fst x_2.snd.fst).snd = x'.snd.fst) ∧ x_2.snd.snd.snd.snd.snd.fst ++
  [IntKind.i64.wrap (↑(Utf8.decode x_2.snd.snd.fst x_2.snd.fst).fst : Int)] = x'.snd.snd.snd.snd.snd.fst ∧ 0 = 0 ∧ (↑x_2.fst : Int) = (↑x'.fst : Int) ∧ x_2.snd.snd.fst =
  x'.snd.snd.fst ∧ x_2.snd.snd.snd.snd.fst = x'.snd.snd.snd.snd.fst ∧ x_2.snd.snd.snd.snd.snd.snd = x'.snd.snd.snd.snd.snd.snd ∧ 0 = 0 ∧ True))) ∧ (decide ((↑(Utf8.decode
  x_2.snd.snd.fst x_2.snd.fst).fst : Int) = (65533 : Int)) = false → (x_2.snd.snd.snd.snd.snd.fst.length + [IntKind.i64.wrap (↑(Utf8.decode x_2.snd.snd.fst x_2.snd.fst).fst
  : Int)].length ≤ 140737488355328 ∧ (x_2.snd.snd.snd.snd.snd.fst.length + [IntKind.i64.wrap (↑(Utf8.decode x_2.snd.snd.fst x_2.snd.fst).fst : Int)].length) * 8 ≤
  140737488355328) ∧ ∃ (x' : Nat × Nat × ByteArray × List Int × ByteArray × List Int × Bool), ((x'.fst = x0.fst ∧ x'.snd.snd.fst = x0.snd.snd.fst ∧ x'.snd.snd.snd.fst =
  x0.snd.snd.snd.fst ∧ x'.snd.snd.snd.snd.fst = x0.snd.snd.snd.snd.fst ∧ x'.snd.fst ≤ x'.snd.snd.fst.size ∧ x'.snd.snd.snd.snd.snd.fst.length ≤ x'.snd.fst ∧
  (x'.snd.snd.snd.snd.snd.snd = true → runS ([], E0) (bytesL x'.snd.snd.fst) = runS (x'.snd.snd.snd.snd.snd.fst, E0) (List.drop x'.snd.fst (bytesL x'.snd.snd.fst)))) ∧
  x'.snd.snd.fst.size - x'.snd.fst < x_2.snd.snd.fst.size - x_2.snd.fst) ∧ l = l ∧ x_2.snd.snd.snd.fst = x'.snd.snd.snd.fst ∧ (x_2.snd.snd.fst = x'.snd.snd.fst ∧
  x_2.snd.fst + (Utf8.decode x_2.snd.snd.fst x_2.snd.fst).snd = x'.snd.fst) ∧ x_2.snd.snd.snd.snd.snd.fst ++ [IntKind.i64.wrap (↑(Utf8.decode x_2.snd.snd.fst
  x_2.snd.fst).fst : Int)] = x'.snd.snd.snd.snd.snd.fst ∧ 0 = 0 ∧ (↑x_2.fst : Int) = (↑x'.fst : Int) ∧ x_2.snd.snd.fst = x'.snd.snd.fst ∧ x_2.snd.snd.snd.snd.fst =
  x'.snd.snd.snd.snd.fst ∧ x_2.snd.snd.snd.snd.snd.snd = x'.snd.snd.snd.snd.snd.snd ∧ 0 = 0 ∧ True)) ∧ (x_2.snd.snd.fst.size ≤ x_2.snd.fst → (x_2.snd.snd.snd.snd.snd.snd =
  true → ((!decide (x_2.snd.snd.snd.snd.fst = ByteArray.mk #[])) = true → ∃ (x : Bool), x = false ∧ Leaf rtB K x) ∧ ((!decide (x_2.snd.snd.snd.snd.fst = ByteArray.mk #[]))
  = false → x_2.snd.snd.snd.fst.length ≤ 4611686018427387904 ∧ ∀ (r : Bool), r = decide (x_2.snd.snd.snd.fst = x_2.snd.snd.snd.snd.snd.fst) → ((!r) = true → ∃ (x : Bool), x
  = false ∧ Leaf rtB K x) ∧ ((!r) = false → ∃ (x' : Nat), (x' ≤ l.length ∧ l.length - x' < l.length - x) ∧ l = l ∧ 0 = 0 ∧ IntKind.i64.wrap ((↑x_2.fst : Int) + (1 : Int)) =
  (↑x' : Int) ∧ True))) ∧ (x_2.snd.snd.snd.snd.snd.snd = false → ∃ (x' : Nat), (x' ≤ l.length ∧ l.length - x' < l.length - x) ∧ l = l ∧ 0 = 0 ∧ IntKind.i64.wrap ((↑x_2.fst
  : Int) + (1 : Int)) = (↑x' : Int) ∧ True)))))) ∧ (decide ((↑x : Int) < (6 : Int)) = false → ∃ (x : Bool), true = x ∧ Leaf rtB K x)) ∧ (decide ((↑x : Int) < (↑l.length :
  Int)) = false → ∃ (x : Bool), true = x ∧ Leaf rtB K x))) := by kernel_rfl

theorem usplits_ok : ConOk Tryd.prog 4 usplitsCon := fn_ok2 (env_ok e_cpN3_ok) mixed Tryd.func4 rfl usplitsCon (by
  intro ags M K h
  unfold usplitsCon at h
  simp only at h
  split at h
  · rename_i l
    refine ⟨{ cfg0 with rt := some rtB, lp := fun r => match r with | 4 => some { X := Nat, fr := fun x => [(1, .ptr 0 0), (3, .i x)], M := fun x => [.flat [.lt .str l]], inv := fun x => x ≤ l.length, mu := fun x => l.length - x } | 12 => some { X := Nat × Nat × ByteArray × List Int × ByteArray, fr := fun x => [(1, .ptr 0 0), (3, .i x.1), (4, .s x.2.2.1), (5, .own 1), (6, .s x.2.2.2.2), (8, .i x.2.1)], M := fun x => [.flat [.lt .str l], ints x.2.2.2.1], inv := fun _ => True, rel := fun x0 x => x.2.1 ≤ x.2.2.1.size + 1 ∧ x.1 = x0.1 ∧ x.2.2 = x0.2.2, mu := fun x => x.2.2.1.size + 1 - x.2.1 } | 21 => some { X := Nat × Nat × ByteArray × List Int × ByteArray × List Int × Bool, fr := fun x => [(1, .ptr 0 0), (3, .i x.1), (4, .s x.2.2.1), (5, .own 1), (6, .s x.2.2.2.2.1), (15, .own 3), (16, .b x.2.2.2.2.2.2), (95, .ptr 2 0)], M := fun x => [.flat [.lt .str l], ints x.2.2.2.1, .strIt x.2.2.1 x.2.1, ints x.2.2.2.2.2.1], inv := fun _ => True, rel := fun x0 x => x.1 = x0.1 ∧ x.2.2.1 = x0.2.2.1 ∧ x.2.2.2.1 = x0.2.2.2.1 ∧ x.2.2.2.2.1 = x0.2.2.2.2.1 ∧ x.2.1 ≤ x.2.2.1.size ∧ x.2.2.2.2.2.1.length ≤ x.2.1 ∧ (x.2.2.2.2.2.2 = true → runS ([], E0) (bytesL x.2.2.1) = runS (x.2.2.2.2.2.1, E0) ((bytesL x.2.2.1).drop x.2.1)), mu := fun x => x.2.2.1.size - x.2.1 } | _ => none }, ?_⟩
    show evFn (env e_cpN3) _ _ [.agg [.lt .str l]] [] _
    rw [usplits_vc]
    obtain ⟨hp, h⟩ := h
    obtain ⟨p1, p2⟩ := hp
    refine ⟨⟨by omega, p2⟩, fun r hr => ⟨fun _ => ⟨_, rfl, h⟩, fun hr0 => ⟨0, Nat.zero_le _, rfl, rfl, rfl, ?_⟩⟩⟩
    clear hr hr0
    intro i q1
    refine ⟨fun h1 => ⟨fun h1b => ?_, fun _ => ⟨_, rfl, h⟩⟩, fun _ => ⟨_, rfl, h⟩⟩
    simp only [strBytes_size, ByteArray.size_append, List.length_append, List.length_cons, List.length_nil, Nat.zero_add, Bool.and_eq_true, Bool.or_eq_true, Bool.and_eq_false_iff, Bool.or_eq_false_iff, decide_eq_true_eq, decide_eq_false_iff_not, Bool.not_eq_true', Bool.not_eq_eq_eq_not, Bool.not_true, Bool.not_false, true_and, and_true, Int.toNat_natCast, not_true_eq_false, not_false_eq_true, ne_eq, eq_self] at h1 h1b
    have hb : (0 : Int) ≤ (i : Int) ∧ (i : Int) < (l.length : Int) := ⟨by omega, by omega⟩
    rw [Int.toNat_natCast]
    generalize gt Kd.str l i = s
    have hnext : IntKind.i64.wrap ((i : Int) + 1) = ((i + 1 : Nat) : Int) := by rw [w64 (by omega)]; omega
    refine ⟨hb, fun h2 => ⟨i + 1, ⟨by omega, by omega⟩, rfl, rfl, hnext, trivial⟩, fun h2 => ?_⟩
    simp only [strBytes_size, ByteArray.size_append, List.length_append, List.length_cons, List.length_nil, Nat.zero_add, Bool.and_eq_true, Bool.or_eq_true, Bool.and_eq_false_iff, Bool.or_eq_false_iff, decide_eq_true_eq, decide_eq_false_iff_not, Bool.not_eq_true', Bool.not_eq_eq_eq_not, Bool.not_true, Bool.not_false, true_and, and_true, Int.toNat_natCast, not_true_eq_false, not_false_eq_true, ne_eq, eq_self] at h2
    refine ⟨⟨by omega, by omega⟩, fun al left e he => ?_⟩
    have he := he.trans (allP_E s)
    simp only [Prod.mk.injEq] at he
    obtain ⟨e1, e2, rfl⟩ := he
    have hal : al.length ≤ 2 * ByteArray.size s := by
      have := runS_len (bytesL s) ([], E0)
      rw [← e1, bytesL_len] at this
      simpa using this
    refine ⟨fun q => by simp at q, fun _ => ⟨(i, 0, s, al, left), ⟨Nat.zero_le _, rfl, rfl⟩, rfl, rfl, rfl, rfl, rfl, rfl, rfl, ?_⟩⟩
    rintro ⟨i', k, s', al', left'⟩ ⟨c1, c2, c3⟩
    dsimp only at c1 c2 c3 ⊢
    simp only [Prod.mk.injEq] at c3
    obtain ⟨rfl, rfl, rfl⟩ := c3
    subst c2
    refine ⟨fun d1 => ?_, fun d1 => ?_⟩
    · simp only [strBytes_size, ByteArray.size_append, List.length_append, List.length_cons, List.length_nil, Nat.zero_add, Bool.and_eq_true, Bool.or_eq_true, Bool.and_eq_false_iff, Bool.or_eq_false_iff, decide_eq_true_eq, decide_eq_false_iff_not, Bool.not_eq_true', Bool.not_eq_eq_eq_not, Bool.not_true, Bool.not_false, true_and, and_true, Int.toNat_natCast, not_true_eq_false, not_false_eq_true, ne_eq, eq_self] at d1
      simp only [Option.getD_some, Option.getD_none, Int.toNat_natCast]
      have z1 : (s'.extract 0 k).size = k := by rw [ByteArray.size_extract]; omega
      have z2 : (s'.extract k s'.size).size = s'.size - k := by rw [ByteArray.size_extract]; omega
      refine ⟨⟨by omega, by omega, by omega⟩, ⟨by omega, by omega⟩, fun l2 t e hp2 => ?_⟩
      have hp2 := hp2.trans (allP_E _)
      simp only [Prod.mk.injEq] at hp2
      obtain ⟨g1, g2, rfl⟩ := hp2
      have ht : t = E0 ∨ partS t = true := by rw [g2]; exact runS_may _ _ (.inl rfl)
      have ht2 : t.size ≤ 10000 := by
        rcases ht with ht | ht
        · rw [ht]; exact Nat.zero_le _
        · have := partS_size ht; omega
      refine ⟨⟨by omega, by omega, by omega⟩, ⟨by omega, ht2⟩, fun l3 t1 e1' hp3 => ?_⟩
      have hp3 := hp3.trans (allP_may ht)
      simp only [Prod.mk.injEq] at hp3
      obtain ⟨g3, g4, rfl⟩ := hp3
      have hsp := runS_split s' k (by omega) ([], E0)
      have hpair : runS ([], E0) (bytesL (s'.extract 0 k)) = (l2 ++ [], t) := by rw [List.append_nil, g1, g2]
      rw [hpair, runS_acc, ← g3, ← g4] at hsp
      have k1 : al' = l2 ++ l3 := e1.trans (congrArg Prod.fst hsp).symm
      have k2 : left' = t1 := e2.trans (congrArg Prod.snd hsp).symm
      have hlens : l2.length + l3.length ≤ 2 * s'.size := by
        rw [k1, List.length_append] at hal
        exact hal
      refine ⟨fun q => by simp at q, fun _ => ⟨fun q => by simp at q, fun _ => ⟨fun q => by simp [k2] at q, fun _ => ⟨by omega, ⟨by omega, by omega⟩, by rw [List.length_append]; omega, fun r hr => ⟨fun q => by rw [hr, k1] at q; simp at q, fun _ => ⟨(i', k + 1, s', al', left'), ⟨⟨by show k + 1 ≤ s'.size + 1; omega, by trivial, by trivial⟩, by show s'.size + 1 - (k + 1) < s'.size + 1 - k; omega⟩, by trivial, by trivial, by trivial, by trivial, by trivial, by trivial, by rw [w64 (by omega)]; show (k : Int) + 1 = ((k + 1 : Nat) : Int); omega, trivial⟩⟩⟩⟩⟩⟩
    · clear d1 c1
      refine ⟨(i', 0, s', al', left', [], true), ⟨rfl, rfl, rfl, rfl, Nat.zero_le _, Nat.zero_le _, fun _ => rfl⟩, rfl, rfl, ⟨rfl, rfl⟩, rfl, rfl, rfl, rfl, rfl, rfl, rfl, ?_⟩
      rintro ⟨i2, pos, s2, al2, left2, acc, ok⟩ ⟨f1, f2, f3, f4, f5, f6, f7⟩
      dsimp only at f1 f2 f3 f4 f5 f6 f7 ⊢
      subst f1 f2 f3 f4
      refine ⟨fun g1 => ?_, fun g1 => ?_⟩
      · obtain ⟨hd1, hd2, hd3⟩ := dec_pos g1
        have hrun := run_dec g1 acc
        have hval : (Utf8.decode s2 pos).1 = 65533 → bt s2 pos = 239 → bt s2 (pos + 1) = 191 → bt s2 (pos + 2) = 189 → pos + 2 < s2.size → 3 ≤ (Utf8.decode s2 pos).2 := by
          intro _ v0 v1 v2 v3
          rw [decode_at, v0, v1, v2]
          unfold decN
          rw [if_neg (by decide), if_neg (by simp), if_pos (by simp; omega), if_pos (by decide)]
          exact Nat.le_refl 3
        generalize Utf8.decode s2 pos = D at *
        obtain ⟨R, N⟩ := D
        dsimp only at hd1 hd2 hd3 hrun hval ⊢
        have hw : IntKind.i64.wrap ((R : Nat) : Int) = R := w64 (by omega)
        rw [hw]
        have bnd : acc.length + [(R : Int)].length ≤ 140737488355328 ∧ (acc.length + [(R : Int)].length) * 8 ≤ 140737488355328 := ⟨by simp; omega, by simp; omega⟩
        have hlen2 : (acc ++ [(R : Int)]).length ≤ pos + N := by simp; omega
        have hfin : (R ≠ 65533 ∨ 3 ≤ N) → ok = true → runS ([], E0) (bytesL s2) = runS (acc ++ [(R : Int)], E0) ((bytesL s2).drop (pos + N)) := fun hh ho => (f7 ho).trans (hrun hh)
        have hmu : s2.size - (pos + N) < s2.size - pos := by omega
        refine ⟨fun m1 => ⟨fun m2 => ⟨bnd, (i2, pos + N, s2, al2, left2, acc ++ [(R : Int)], false), ⟨⟨rfl, rfl, rfl, rfl, hd2, hlen2, fun e => by cases e⟩, hmu⟩, rfl, rfl, ⟨rfl, rfl⟩, by repeat (first | exact trivial | refine ⟨rfl, ?_⟩)⟩, fun m2 => ⟨⟨?_, ?_, ?_⟩, fun m3 => ⟨bnd, (i2, pos + N, s2, al2, left2, acc ++ [(R : Int)], false), ⟨⟨rfl, rfl, rfl, rfl, hd2, hlen2, fun e => by cases e⟩, hmu⟩, rfl, rfl, ⟨rfl, rfl⟩, by repeat (first | exact trivial | refine ⟨rfl, ?_⟩)⟩, fun m3 => ⟨bnd, (i2, pos + N, s2, al2, left2, acc ++ [(R : Int)], ok), ⟨⟨rfl, rfl, rfl, rfl, hd2, hlen2, hfin ?_⟩, hmu⟩, rfl, rfl, ⟨rfl, rfl⟩, by repeat (first | exact trivial | refine ⟨rfl, ?_⟩)⟩⟩⟩, fun m1 => ⟨bnd, (i2, pos + N, s2, al2, left2, acc ++ [(R : Int)], ok), ⟨⟨rfl, rfl, rfl, rfl, hd2, hlen2, hfin ?_⟩, hmu⟩, rfl, rfl, ⟨rfl, rfl⟩, by repeat (first | exact trivial | refine ⟨rfl, ?_⟩)⟩⟩
        all_goals simp only [strBytes_size, ByteArray.size_append, List.length_append, List.length_cons, List.length_nil, Nat.zero_add, Bool.and_eq_true, Bool.or_eq_true, Bool.and_eq_false_iff, Bool.or_eq_false_iff, decide_eq_true_eq, decide_eq_false_iff_not, Bool.not_eq_true', Bool.not_eq_eq_eq_not, Bool.not_true, Bool.not_false, true_and, and_true, Int.toNat_natCast, not_true_eq_false, not_false_eq_true, ne_eq, eq_self, Option.getD_some, Option.getD_none] at *
        · omega
        · rw [w64 (by omega)]; omega
        · rw [w64 (by omega)] at m2 ⊢; omega
        · right
          rw [w64 (by omega)] at m2 m3
          have z : ((pos : Int) + 3).toNat = pos + 3 := by omega
          rw [z] at m3
          have hget : ∀ j, j < 3 → bt s2 (pos + j) = bt (s2.extract pos (pos + 3)) j := by
            intro j hj
            have q := bytesL_ext s2 pos (pos + 3)
            have q1 := bytesL_get (s := s2) (j := pos + j) (by omega)
            have q2 := bytesL_get (s := s2.extract pos (pos + 3)) (j := j) (by rw [ByteArray.size_extract]; omega)
            rw [q, List.getElem?_drop, List.getElem?_take, if_pos (by omega), q1] at q2
            exact Option.some.inj q2
          refine hval (by omega) ?_ ?_ ?_ (by omega)
          · have := hget 0 (by omega)
            rw [Nat.add_zero] at this
            rw [this, m3]; rfl
          · rw [hget 1 (by omega), m3]; rfl
          · rw [hget 2 (by omega), m3]; rfl
        · left; omega
      · have hpos : pos = s2.size := by omega
        subst hpos
        rw [List.drop_of_length_le (by rw [bytesL_len]; exact Nat.le_refl _)] at f7
        refine ⟨fun m1 => ?_, fun m1 => ⟨i2 + 1, ⟨by omega, by omega⟩, rfl, rfl, hnext, trivial⟩⟩
        have hfin : runS ([], E0) (bytesL s2) = (acc, E0) := f7 m1
        have k1 : al2 = acc := e1.trans (congrArg Prod.fst hfin)
        have k2 : left2 = E0 := e2.trans (congrArg Prod.snd hfin)
        refine ⟨fun q => by rw [k2] at q; simp [E0] at q, fun _ => ⟨by omega, fun r hr => ⟨fun q => by rw [hr, k1] at q; simp at q, fun _ => ⟨i2 + 1, ⟨by omega, by omega⟩, rfl, rfl, hnext, trivial⟩⟩⟩⟩
  · exact h.elim)
noncomputable def e_usplits : List (FuncId × Con) := (4, usplitsCon) :: e_cpN3
theorem e_usplits_ok : ConsOk Tryd.prog (look e_usplits) := cons_cons e_cpN3_ok usplits_ok
end Go.Cx
end
