/- A law is proved out of the functions' contracts. Conditions: none beyond those of the given statement. -/
import Derived.Test.YtcdpapgkgiifjaaDoorT4
import Derived.Test.YtcdpapgkgiifjaaDoorT1
import Derived.Test.YtcdpapgkgiifjaaDoorT3
import Derived.Test.YtcdpapgkgiifjaaDoorSx4
import Derived.Test.YtcdpapgkgiifjaaDoorRows
import Derived.Test.YtcdpapgkgiifjaaDoorTie
import Derived.ProofKit
import Derived.SizedLaws
import Derived.SliceStrings
import Derived.ChangeSame
import Derived.Handed
import Derived.ChangeVars
import Derived.Carry
import Derived.LaidLaws
import Derived.LaidHandle
import Derived.LaidByTextLater
import Derived.Lib.LaidU8
import Derived.Lib.LaidIn
import Derived.JoinedOf
import Derived.Deep.Fields
import Derived.Test.YtcdpapgkgiifjaaDoorCards
import Derived.SevenTiedAt
set_option linter.unusedVariables false
set_option linter.unusedSimpArgs false
section
namespace Go.Cx
open Go Go.Sx Go.Proofs
set_option maxRecDepth 100000
set_option maxHeartbeats 0
/-! equal events, copied events -/
noncomputable def e_eqN2 : List (FuncId × Con) := (14, eqNCon) :: e_rstate
theorem e_eqN2_ok : ConsOk Tryd.prog (look e_eqN2) := cons_cons e_rstate_ok eqN_ok
noncomputable def e_heavy2 : List (FuncId × Con) := (9, heavyCon) :: e_eqN2
theorem e_heavy2_ok : ConsOk Tryd.prog (look e_heavy2) := cons_cons e_eqN2_ok heavy_ok
noncomputable def num3Con : Con := ⟨[.v], fun ags M K => evFn (env e_heavy2) Tryd.f27 (cfg1) ags M K⟩
theorem num3_ok : ConOk Tryd.prog 27 num3Con := fn_ok (env_ok e_heavy2_ok) mixed Tryd.func27 rfl num3Con (cfg1) (fun _ _ _ h => h)
noncomputable def e_num3 : List (FuncId × Con) := (27, num3Con) :: e_heavy2
theorem e_num3_ok : ConsOk Tryd.prog (look e_num3) := cons_cons e_heavy2_ok num3_ok
noncomputable def vchkCon : Con := ⟨[.g [none, none, some (.int .i64), none, none]], fun ags M K => evFn (env e_num3) Tryd.f31 (cfg1) ags M K⟩
theorem vchk_ok : ConOk Tryd.prog 31 vchkCon := fn_ok (env_ok e_num3_ok) mixed Tryd.func31 rfl vchkCon (cfg1) (fun _ _ _ h => h)
noncomputable def e_vchk : List (FuncId × Con) := (31, vchkCon) :: e_num3
theorem e_vchk_ok : ConsOk Tryd.prog (look e_vchk) := cons_cons e_num3_ok vchk_ok
noncomputable def eqEvCon : Con := ⟨[.g [none, none, some (.int .i64), none, none], .g [none, none, some (.int .i64), none, none]], fun ags M K => match ags, M with
  | [.agg [.val (.int .i64 ak), .val (.int .i64 ar), .lt (.int .i64) ap, .val (.string ai), .val (.string ax)], .agg [.val (.int .i64 bk), .val (.int .i64 br), .lt (.int .i64) bp, .val (.string bi), .val (.string bx)]], [] => (ap.length ≤ 4611686018427387904) ∧ ∀ r : Bool, r = pb ((⟨ak, ar, ap, ai, ax⟩ : Ev) = ⟨bk, br, bp, bi, bx⟩) → K (.b r) []
  | _, _ => False⟩
theorem eqEv_vc (ak ar : Int) (ap : List Int) (ai ax : ByteArray) (bk br : Int) (bp : List Int) (bi bx : ByteArray) (K : AV → List Blk → Prop) : (evFn (env e_vchk) Tryd.f47 ({ cfg1 with rt := some rtB }) [.agg [.i ak, .i ar, .lt (.int .i64) ap, .s ai, .s ax], .agg [.i bk, .i br, .lt (.int .i64) bp, .s bi, .s bx]] [] K) = (
  ∃ (b : Bool), (decide (ak = bk) = true → decide (ar = br) = b) ∧ ∃ (b_1 : Bool), ((decide (ak = bk) && b) = true → ap.length ≤ 4611686018427387904 ∧ ∀ (r : Bool), r =
  decide (ap = bp) → r = b_1) ∧ ∃ (b_2 : Bool), ((decide (ak = bk) && b && b_1) = true → decide (ai = bi) = b_2) ∧ ∃ (b_3 : Bool), ((decide (ak = bk) && b && b_1 && b_2) =
  true → decide (ax = bx) = b_3) ∧ ∃ (x : Bool), (decide (ak = bk) && b && b_1 && b_2 && b_3) = x ∧ Leaf rtB K x) := by kernel_rfl

theorem eqEv_ok : ConOk Tryd.prog 47 eqEvCon := fn_ok2 (env_ok e_vchk_ok) mixed Tryd.func47 rfl eqEvCon (by
  intro ags M K h
  unfold eqEvCon at h
  simp only at h
  split at h
  · rename_i ak ar ap ai ax bk br bp bi bx
    refine ⟨{ cfg1 with rt := some rtB }, ?_⟩
    show evFn (env e_vchk) _ _ [.agg [.i ak, .i ar, .lt (.int .i64) ap, .s ai, .s ax], .agg [.i bk, .i br, .lt (.int .i64) bp, .s bi, .s bx]] [] _
    rw [eqEv_vc]
    obtain ⟨hp, h⟩ := h
    refine ⟨_, fun _ => rfl, _, fun _ => ⟨hp, fun r hr => hr⟩, _, fun _ => rfl, _, fun _ => rfl, _, rfl, h _ ?_⟩
    refine pb_eq ?_
    simp only [strBytes_size, ByteArray.size_append, List.length_append, List.length_cons, List.length_nil, Nat.zero_add, Bool.and_eq_true, Bool.or_eq_true, Bool.and_eq_false_iff, Bool.or_eq_false_iff, decide_eq_true_eq, decide_eq_false_iff_not, Bool.not_eq_true', Bool.not_eq_eq_eq_not, Bool.not_true, Bool.not_false, true_and, and_true, Int.toNat_natCast, not_true_eq_false, not_false_eq_true, ne_eq, eq_self, Ev.mk.injEq]
    constructor
    · rintro ⟨⟨⟨⟨h1, h2⟩, h3⟩, h4⟩, h5⟩; exact ⟨h1, h2, h3, h4, h5⟩
    · rintro ⟨h1, h2, h3, h4, h5⟩; exact ⟨⟨⟨⟨h1, h2⟩, h3⟩, h4⟩, h5⟩
  · exact h.elim)
noncomputable def e_eqEv : List (FuncId × Con) := (47, eqEvCon) :: e_vchk
theorem e_eqEv_ok : ConsOk Tryd.prog (look e_eqEv) := cons_cons e_vchk_ok eqEv_ok
noncomputable def eqParCon : Con := ⟨[.g [none, none, some (.int .i64), none, none], .g [none, none, some (.int .i64), none, none]], fun ags M K => match ags, M with
  | [.agg [.val (.int .i64 ak), .val (.string ar), .lt (.int .i64) ap, .val (.string ai), .val (.string ax)], .agg [.val (.int .i64 bk), .val (.string br), .lt (.int .i64) bp, .val (.string bi), .val (.string bx)]], [] => (ap.length ≤ 4611686018427387904) ∧ ∀ r : Bool, r = pb ((⟨ak, ar, ap, ai, ax⟩ : Parse) = ⟨bk, br, bp, bi, bx⟩) → K (.b r) []
  | _, _ => False⟩
theorem eqPar_vc (ak : Int) (ar : ByteArray) (ap : List Int) (ai ax : ByteArray) (bk : Int) (br : ByteArray) (bp : List Int) (bi bx : ByteArray) (K : AV → List Blk → Prop) : (evFn (env e_eqEv) Tryd.f29 ({ cfg1 with rt := some rtB }) [.agg [.i ak, .s ar, .lt (.int .i64) ap, .s ai, .s ax], .agg [.i bk, .s br, .lt (.int .i64) bp, .s bi, .s bx]] [] K) = (
  ∃ (b : Bool), (decide (ak = bk) = true → decide (ar = br) = b) ∧ ∃ (b_1 : Bool), ((decide (ak = bk) && b) = true → ap.length ≤ 4611686018427387904 ∧ ∀ (r : Bool), r =
  decide (ap = bp) → r = b_1) ∧ ∃ (b_2 : Bool), ((decide (ak = bk) && b && b_1) = true → decide (ai = bi) = b_2) ∧ ∃ (b_3 : Bool), ((decide (ak = bk) && b && b_1 && b_2) =
  true → decide (ax = bx) = b_3) ∧ ∃ (x : Bool), (decide (ak = bk) && b && b_1 && b_2 && b_3) = x ∧ Leaf rtB K x) := by kernel_rfl

theorem eqPar_ok : ConOk Tryd.prog 29 eqParCon := fn_ok2 (env_ok e_eqEv_ok) mixed Tryd.func29 rfl eqParCon (by
  intro ags M K h
  unfold eqParCon at h
  simp only at h
  split at h
  · rename_i ak ar ap ai ax bk br bp bi bx
    refine ⟨{ cfg1 with rt := some rtB }, ?_⟩
    show evFn (env e_eqEv) _ _ [.agg [.i ak, .s ar, .lt (.int .i64) ap, .s ai, .s ax], .agg [.i bk, .s br, .lt (.int .i64) bp, .s bi, .s bx]] [] _
    rw [eqPar_vc]
    obtain ⟨hp, h⟩ := h
    refine ⟨_, fun _ => rfl, _, fun _ => ⟨hp, fun r hr => hr⟩, _, fun _ => rfl, _, fun _ => rfl, _, rfl, h _ ?_⟩
    refine pb_eq ?_
    simp only [strBytes_size, ByteArray.size_append, List.length_append, List.length_cons, List.length_nil, Nat.zero_add, Bool.and_eq_true, Bool.or_eq_true, Bool.and_eq_false_iff, Bool.or_eq_false_iff, decide_eq_true_eq, decide_eq_false_iff_not, Bool.not_eq_true', Bool.not_eq_eq_eq_not, Bool.not_true, Bool.not_false, true_and, and_true, Int.toNat_natCast, not_true_eq_false, not_false_eq_true, ne_eq, eq_self, Parse.mk.injEq]
    constructor
    · rintro ⟨⟨⟨⟨h1, h2⟩, h3⟩, h4⟩, h5⟩; exact ⟨h1, h2, h3, h4, h5⟩
    · rintro ⟨h1, h2, h3, h4, h5⟩; exact ⟨⟨⟨⟨h1, h2⟩, h3⟩, h4⟩, h5⟩
  · exact h.elim)
noncomputable def e_eqPar : List (FuncId × Con) := (29, eqParCon) :: e_eqEv
theorem e_eqPar_ok : ConsOk Tryd.prog (look e_eqPar) := cons_cons e_eqEv_ok eqPar_ok
noncomputable def eqEvsCon : Con := ⟨[.r .ev, .r .ev], fun ags M K => match ags, M with
  | [.lt .ev xs, .lt .ev ys], [] => (xs.length ≤ 4611686018427387904 ∧ ∀ e ∈ (xs : List Ev), e.params.length ≤ 4611686018427387904) ∧ ∀ r : Bool, r = pb (xs = ys) → K (.b r) []
  | _, _ => False⟩
theorem eqEvs_vc (xs ys : List Ev) (K : AV → List Blk → Prop) : (evFn (env e_eqPar) Tryd.f28 ({ cfg1 with rt := some rtB, lp := fun r => match r with | 4 => some { X := Nat, fr := fun i => [(0, .lt .ev xs), (1, .lt .ev ys), (5, .i i)], M := fun _ => [], inv := fun i => i ≤ xs.length ∧ (xs.take i : List Ev) = ys.take i, mu := fun i => xs.length - i } | _ => none }) [.lt .ev xs, .lt .ev ys] [] K) = (
  ((!decide ((↑xs.length : Int) = (↑ys.length : Int))) = true → ∃ (x : Bool), x = false ∧ Leaf rtB K x) ∧ ((!decide ((↑xs.length : Int) = (↑ys.length : Int))) = false → ∃
  (x0 : Nat), (x0 ≤ xs.length ∧ List.take x0 xs = List.take x0 ys) ∧ xs = xs ∧ ys = ys ∧ (0 : Int) = (↑x0 : Int) ∧ ∀ (x : Nat), x ≤ xs.length ∧ List.take x xs = List.take x
  ys → (decide ((↑x : Int) < (↑xs.length : Int)) = true → ((0 : Int) ≤ (↑x : Int) ∧ (↑x : Int) < (↑xs.length : Int)) ∧ ((0 : Int) ≤ (↑x : Int) ∧ (↑x : Int) < (↑ys.length :
  Int)) ∧ (gt Kd.ev xs (↑x : Int).toNat).params.length ≤ 4611686018427387904 ∧ ∀ (r : Bool), r = pb (Ev.mk (gt Kd.ev xs (↑x : Int).toNat).kind (gt Kd.ev xs (↑x :
  Int).toNat).rune (gt Kd.ev xs (↑x : Int).toNat).params (gt Kd.ev xs (↑x : Int).toNat).inter (gt Kd.ev xs (↑x : Int).toNat).text = Ev.mk (gt Kd.ev ys (↑x :
  Int).toNat).kind (gt Kd.ev ys (↑x : Int).toNat).rune (gt Kd.ev ys (↑x : Int).toNat).params (gt Kd.ev ys (↑x : Int).toNat).inter (gt Kd.ev ys (↑x : Int).toNat).text) →
  ((!r) = true → ∃ (x : Bool), x = false ∧ Leaf rtB K x) ∧ ((!r) = false → ∃ (x' : Nat), ((x' ≤ xs.length ∧ List.take x' xs = List.take x' ys) ∧ xs.length - x' < xs.length
  - x) ∧ xs = xs ∧ ys = ys ∧ IntKind.i64.wrap ((↑x : Int) + (1 : Int)) = (↑x' : Int) ∧ True)) ∧ (decide ((↑x : Int) < (↑xs.length : Int)) = false → ∃ (x : Bool), x = true ∧
  Leaf rtB K x))) := by kernel_rfl

theorem eqEvs_ok : ConOk Tryd.prog 28 eqEvsCon := fn_ok2 (env_ok e_eqPar_ok) mixed Tryd.func28 rfl eqEvsCon (by
  intro ags M K h
  unfold eqEvsCon at h
  simp only at h
  split at h
  · rename_i xs ys
    refine ⟨{ cfg1 with rt := some rtB, lp := fun r => match r with | 4 => some { X := Nat, fr := fun i => [(0, .lt .ev xs), (1, .lt .ev ys), (5, .i i)], M := fun _ => [], inv := fun i => i ≤ xs.length ∧ (xs.take i : List Ev) = ys.take i, mu := fun i => xs.length - i } | _ => none }, ?_⟩
    show evFn (env e_eqPar) _ _ [.lt .ev xs, .lt .ev ys] [] _
    rw [eqEvs_vc]
    obtain ⟨hp, h⟩ := h
    obtain ⟨p1, p2⟩ := hp
    refine ⟨fun h1 => ⟨_, rfl, h _ ?_⟩, fun h1 => ⟨0, ⟨Nat.zero_le _, rfl⟩, rfl, rfl, rfl, ?_⟩⟩
    · simp only [strBytes_size, ByteArray.size_append, List.length_append, List.length_cons, List.length_nil, Nat.zero_add, Bool.and_eq_true, Bool.or_eq_true, Bool.and_eq_false_iff, Bool.or_eq_false_iff, decide_eq_true_eq, decide_eq_false_iff_not, Bool.not_eq_true', Bool.not_eq_eq_eq_not, Bool.not_true, Bool.not_false, true_and, and_true, Int.toNat_natCast, not_true_eq_false, not_false_eq_true, ne_eq, eq_self] at h1
      refine (pb_false.2 fun e => ?_).symm
      rw [e] at h1; exact h1 rfl
    · simp only [strBytes_size, ByteArray.size_append, List.length_append, List.length_cons, List.length_nil, Nat.zero_add, Bool.and_eq_true, Bool.or_eq_true, Bool.and_eq_false_iff, Bool.or_eq_false_iff, decide_eq_true_eq, decide_eq_false_iff_not, Bool.not_eq_true', Bool.not_eq_eq_eq_not, Bool.not_true, Bool.not_false, true_and, and_true, Int.toNat_natCast, not_true_eq_false, not_false_eq_true, ne_eq, eq_self] at h1
      rintro i ⟨q1, q2⟩
      refine ⟨fun h2 => ?_, fun h2 => ⟨_, rfl, h _ ?_⟩⟩
      · simp only [strBytes_size, ByteArray.size_append, List.length_append, List.length_cons, List.length_nil, Nat.zero_add, Bool.and_eq_true, Bool.or_eq_true, Bool.and_eq_false_iff, Bool.or_eq_false_iff, decide_eq_true_eq, decide_eq_false_iff_not, Bool.not_eq_true', Bool.not_eq_eq_eq_not, Bool.not_true, Bool.not_false, true_and, and_true, Int.toNat_natCast, not_true_eq_false, not_false_eq_true, ne_eq, eq_self] at h2
        have hx : i < xs.length := by omega
        have hxb : i < ys.length := by omega
        rw [Int.toNat_natCast]
        have hy := gt_lt (k := .ev) hx
        have hz := gt_lt (k := .ev) hxb
        have hpm := p2 _ (List.mem_of_getElem? hy)
        refine ⟨⟨by omega, by omega⟩, ⟨by omega, by omega⟩, hpm, ?_⟩
        rintro _ rfl
        refine ⟨fun h3 => ⟨_, rfl, h _ ?_⟩, fun h3 => ⟨i + 1, ⟨⟨by omega, ?_⟩, by omega⟩, rfl, rfl, by rw [w64 (by omega)]; omega, trivial⟩⟩
        · have h3 : pb (gt Kd.ev xs i = gt Kd.ev ys i) = false := (Bool.not_eq_true' _).mp h3
          refine (pb_false.2 fun e => ?_).symm
          subst e
          exact pb_false.1 h3 rfl
        · have h3 : pb (gt Kd.ev xs i = gt Kd.ev ys i) = true := (Bool.not_eq_false' _).mp h3
          have h3 := pb_true.1 h3
          rw [List.take_add_one, List.take_add_one, hy, hz, q2, h3]
      · simp only [strBytes_size, ByteArray.size_append, List.length_append, List.length_cons, List.length_nil, Nat.zero_add, Bool.and_eq_true, Bool.or_eq_true, Bool.and_eq_false_iff, Bool.or_eq_false_iff, decide_eq_true_eq, decide_eq_false_iff_not, Bool.not_eq_true', Bool.not_eq_eq_eq_not, Bool.not_true, Bool.not_false, true_and, and_true, Int.toNat_natCast, not_true_eq_false, not_false_eq_true, ne_eq, eq_self] at h2
        have hx : i = xs.length := by omega
        subst hx
        have hl : xs.length = ys.length := by omega
        rw [List.take_length, hl, List.take_length] at q2
        exact (pb_true.2 q2).symm
  · exact h.elim)
noncomputable def e_eqEvs : List (FuncId × Con) := (28, eqEvsCon) :: e_eqPar
theorem e_eqEvs_ok : ConsOk Tryd.prog (look e_eqEvs) := cons_cons e_eqPar_ok eqEvs_ok
noncomputable def cpEvCon : Con := ⟨[.g [none, none, some (.int .i64), none, none]], fun ags M K => evFn (env e_eqEvs) Tryd.f48 (cfg1) ags M K⟩
theorem cpEv_ok : ConOk Tryd.prog 48 cpEvCon := fn_ok (env_ok e_eqEvs_ok) mixed Tryd.func48 rfl cpEvCon (cfg1) (fun _ _ _ h => h)
noncomputable def e_cpEv : List (FuncId × Con) := (48, cpEvCon) :: e_eqEvs
theorem e_cpEv_ok : ConsOk Tryd.prog (look e_cpEv) := cons_cons e_eqEvs_ok cpEv_ok
noncomputable def cpEvsCon : Con := ⟨[.r .ev], fun ags M K => match ags, M with
  | [.lt .ev xs], [] => (xs.length ≤ 100000000 ∧ ∀ e ∈ (xs : List Ev), e.params.length ≤ 100000000) ∧ (K (.own 0) [.arr .ev xs])
  | _, _ => False⟩
theorem cpEvs_vc (xs : List Ev) (K : AV → List Blk → Prop) : (evFn (env e_cpEv) Tryd.f34 ({ cfg1 with fz := [16], rt := some (rtC .ev), lp := fun r => match r with | 3 => some (cpLp .ev xs) | _ => none }) [.lt .ev xs] [] K) = (
  ∃ (x0 : Nat), x0 ≤ xs.length ∧ [] = List.take x0 xs ∧ xs = xs ∧ (0 : Int) = (↑x0 : Int) ∧ ∀ (x : Nat), x ≤ xs.length → (decide ((↑x : Int) < (↑xs.length : Int)) = true →
  ((0 : Int) ≤ (↑x : Int) ∧ (↑x : Int) < (↑xs.length : Int)) ∧ (gt Kd.ev xs (↑x : Int).toNat).params.length ≤ 100000000 ∧ ((List.take x xs).length + [Ev.mk (gt Kd.ev xs (↑x
  : Int).toNat).kind (gt Kd.ev xs (↑x : Int).toNat).rune (gt Kd.ev xs (↑x : Int).toNat).params (gt Kd.ev xs (↑x : Int).toNat).inter (gt Kd.ev xs (↑x :
  Int).toNat).text].length ≤ 140737488355328 ∧ ((List.take x xs).length + [Ev.mk (gt Kd.ev xs (↑x : Int).toNat).kind (gt Kd.ev xs (↑x : Int).toNat).rune (gt Kd.ev xs (↑x :
  Int).toNat).params (gt Kd.ev xs (↑x : Int).toNat).inter (gt Kd.ev xs (↑x : Int).toNat).text].length) * 72 ≤ 140737488355328) ∧ ∃ (x' : Nat), (x' ≤ xs.length ∧ xs.length -
  x' < xs.length - x) ∧ List.take x xs ++ [Ev.mk (gt Kd.ev xs (↑x : Int).toNat).kind (gt Kd.ev xs (↑x : Int).toNat).rune (gt Kd.ev xs (↑x : Int).toNat).params (gt Kd.ev xs
  (↑x : Int).toNat).inter (gt Kd.ev xs (↑x : Int).toNat).text] = List.take x' xs ∧ xs = xs ∧ IntKind.i64.wrap ((↑x : Int) + (1 : Int)) = (↑x' : Int) ∧ True) ∧ (decide ((↑x
  : Int) < (↑xs.length : Int)) = false → ∃ (x_1 : List (El Kd.ev)), List.take x xs = x_1 ∧ Leaf (rtC Kd.ev) K x_1)) := by kernel_rfl

theorem cpEvs_ok : ConOk Tryd.prog 34 cpEvsCon := fn_ok2 (env_ok e_cpEv_ok) mixed Tryd.func34 rfl cpEvsCon (by
  intro ags M K h
  unfold cpEvsCon at h
  simp only at h
  split at h
  · rename_i xs
    refine ⟨{ cfg1 with fz := [16], rt := some (rtC .ev), lp := fun r => match r with | 3 => some (cpLp .ev xs) | _ => none }, ?_⟩
    show evFn (env e_cpEv) _ _ [.lt .ev xs] [] _
    rw [cpEvs_vc]
    obtain ⟨hp, h⟩ := h
    obtain ⟨p1, p2⟩ := hp
    refine ⟨0, Nat.zero_le _, rfl, rfl, rfl, ?_⟩
    intro i q1
    refine ⟨fun h1 => ?_, fun h1 => ⟨_, rfl, ?_⟩⟩
    · simp only [strBytes_size, ByteArray.size_append, List.length_append, List.length_cons, List.length_nil, Nat.zero_add, Bool.and_eq_true, Bool.or_eq_true, Bool.and_eq_false_iff, Bool.or_eq_false_iff, decide_eq_true_eq, decide_eq_false_iff_not, Bool.not_eq_true', Bool.not_eq_eq_eq_not, Bool.not_true, Bool.not_false, true_and, and_true, Int.toNat_natCast, not_true_eq_false, not_false_eq_true, ne_eq, eq_self] at h1
      have hi : i < xs.length := by omega
      rw [Int.toNat_natCast]
      have hl : (xs.take i).length = i := by rw [List.length_take]; omega
      have hg := gt_lt (k := .ev) hi
      refine ⟨⟨by omega, by omega⟩, p2 _ (List.mem_of_getElem? hg), ⟨by rw [hl]; simp; omega, by rw [hl]; simp; omega⟩, i + 1, ⟨hi, by omega⟩, ?_, rfl, by rw [w64 (by omega)]; omega, trivial⟩
      rw [List.take_add_one, hg]; rfl
    · simp only [strBytes_size, ByteArray.size_append, List.length_append, List.length_cons, List.length_nil, Nat.zero_add, Bool.and_eq_true, Bool.or_eq_true, Bool.and_eq_false_iff, Bool.or_eq_false_iff, decide_eq_true_eq, decide_eq_false_iff_not, Bool.not_eq_true', Bool.not_eq_eq_eq_not, Bool.not_true, Bool.not_false, true_and, and_true, Int.toNat_natCast, not_true_eq_false, not_false_eq_true, ne_eq, eq_self] at h1
      have hi : i = xs.length := by omega
      subst hi
      rw [List.take_length]
      exact h
  · exact h.elim)
noncomputable def e_cpEvs : List (FuncId × Con) := (34, cpEvsCon) :: e_cpEv
theorem e_cpEvs_ok : ConsOk Tryd.prog (look e_cpEvs) := cons_cons e_cpEv_ok cpEvs_ok
noncomputable def heavy3Con : Con := ⟨[.g [some .parse, some .str]], fun ags M K => match ags, M with
  | [.agg [.lt .parse ss, .lt .str l]], [] => ((l.length ≤ 140737488351232 ∧ ∀ s ∈ (l : List ByteArray), s.size ≤ 140737488351232) ∧ ss.length ≤ 140737488351232) ∧ ∀ r : Bool, (r = false → ∀ s ∈ (l : List ByteArray), s.size ≤ 4000) → K (.b r) []
  | _, _ => False⟩
theorem heavy3_vc (ss : List Parse) (l : List ByteArray) (K : AV → List Blk → Prop) : (evFn (env e_cpEvs) Tryd.f23 ({ cfg0 with rt := some rtB, lp := fun r => match r with | 3 => some { X := Nat × Int, fr := fun x => [(1, .ptr 0 0), (3, .i x.2), (4, .i x.1)], M := fun _ => [.flat [.lt .parse ss, .lt .str l]], inv := fun x => x.1 ≤ ss.length, mu := fun x => ss.length - x.1 } | _ => none }) [.agg [.lt .parse ss, .lt .str l]] [] K) = (
  ∃ (x0 : Nat × Int), x0.fst ≤ ss.length ∧ ss = ss ∧ l = l ∧ 0 = 0 ∧ (↑ss.length : Int) = x0.snd ∧ (0 : Int) = (↑x0.fst : Int) ∧ ∀ (x : Nat × Int), x.fst ≤ ss.length →
  (decide ((↑x.fst : Int) < (↑ss.length : Int)) = true → (decide (x.snd < (1048576 : Int)) = true → ((0 : Int) ≤ (↑x.fst : Int) ∧ (↑x.fst : Int) < (↑ss.length : Int)) ∧ ((0
  : Int) ≤ (↑x.fst : Int) ∧ (↑x.fst : Int) < (↑ss.length : Int)) ∧ ((0 : Int) ≤ (↑x.fst : Int) ∧ (↑x.fst : Int) < (↑ss.length : Int)) ∧ ((0 : Int) ≤ (↑x.fst : Int) ∧
  (↑x.fst : Int) < (↑ss.length : Int)) ∧ ∃ (x' : Nat × Int), (x'.fst ≤ ss.length ∧ ss.length - x'.fst < ss.length - x.fst) ∧ ss = ss ∧ l = l ∧ 0 = 0 ∧ IntKind.i64.wrap
  (IntKind.i64.wrap (IntKind.i64.wrap (IntKind.i64.wrap (x.snd + (↑(gt Kd.parse ss (↑x.fst : Int).toNat).params.length : Int)) + (↑(gt Kd.parse ss (↑x.fst :
  Int).toNat).text.size : Int)) + (↑(gt Kd.parse ss (↑x.fst : Int).toNat).inter.size : Int)) + (↑(gt Kd.parse ss (↑x.fst : Int).toNat).part.size : Int)) = x'.snd ∧
  IntKind.i64.wrap ((↑x.fst : Int) + (1 : Int)) = (↑x'.fst : Int) ∧ True) ∧ (decide (x.snd < (1048576 : Int)) = false → (decide ((2000 : Int) < x.snd) = true → ∃ (x :
  Bool), x = true ∧ Leaf rtB K x) ∧ (decide ((2000 : Int) < x.snd) = false → (l.length ≤ 140737488351232 ∧ ∀ (s : El Kd.str), s ∈ l → ByteArray.size s ≤ 140737488351232) ∧
  ∀ (r : Bool), (r = false → ∀ (s : El Kd.str), s ∈ l → ByteArray.size s ≤ 4000) → ∃ (x : Bool), r = x ∧ Leaf rtB K x))) ∧ (decide ((↑x.fst : Int) < (↑ss.length : Int)) =
  false → (decide ((2000 : Int) < x.snd) = true → ∃ (x : Bool), x = true ∧ Leaf rtB K x) ∧ (decide ((2000 : Int) < x.snd) = false → (l.length ≤ 140737488351232 ∧ ∀ (s : El
  Kd.str), s ∈ l → ByteArray.size s ≤ 140737488351232) ∧ ∀ (r : Bool), (r = false → ∀ (s : El Kd.str), s ∈ l → ByteArray.size s ≤ 4000) → ∃ (x : Bool), r = x ∧ Leaf rtB K
  x))) := by kernel_rfl

theorem heavy3_ok : ConOk Tryd.prog 23 heavy3Con := fn_ok2 (env_ok e_cpEvs_ok) mixed Tryd.func23 rfl heavy3Con (by
  intro ags M K h
  unfold heavy3Con at h
  simp only at h
  split at h
  · rename_i ss l
    refine ⟨{ cfg0 with rt := some rtB, lp := fun r => match r with | 3 => some { X := Nat × Int, fr := fun x => [(1, .ptr 0 0), (3, .i x.2), (4, .i x.1)], M := fun _ => [.flat [.lt .parse ss, .lt .str l]], inv := fun x => x.1 ≤ ss.length, mu := fun x => ss.length - x.1 } | _ => none }, ?_⟩
    show evFn (env e_cpEvs) _ _ [.agg [.lt .parse ss, .lt .str l]] [] _
    rw [heavy3_vc]
    obtain ⟨hp, h⟩ := h
    obtain ⟨p1, p2⟩ := hp
    refine ⟨(0, ss.length), Nat.zero_le _, rfl, rfl, rfl, rfl, rfl, ?_⟩
    rintro ⟨i, n⟩ q1
    dsimp only at q1 ⊢
    have tail : (decide ((2000 : Int) < n) = true → ∃ (x : Bool), x = true ∧ Leaf rtB K x) ∧ (decide ((2000 : Int) < n) = false → (l.length ≤ 140737488351232 ∧ ∀ (s : El Kd.str), s ∈ l → ByteArray.size s ≤ 140737488351232) ∧ ∀ (r : Bool), (r = false → ∀ (s : El Kd.str), s ∈ l → ByteArray.size s ≤ 4000) → ∃ (x : Bool), r = x ∧ Leaf rtB K x) :=
      ⟨fun _ => ⟨_, rfl, h _ (fun e => by cases e)⟩, fun _ => ⟨p1, fun r hr => ⟨_, rfl, h _ hr⟩⟩⟩
    refine ⟨fun h1 => ⟨fun h2 => ?_, fun _ => tail⟩, fun _ => tail⟩
    simp only [strBytes_size, ByteArray.size_append, List.length_append, List.length_cons, List.length_nil, Nat.zero_add, Bool.and_eq_true, Bool.or_eq_true, Bool.and_eq_false_iff, Bool.or_eq_false_iff, decide_eq_true_eq, decide_eq_false_iff_not, Bool.not_eq_true', Bool.not_eq_eq_eq_not, Bool.not_true, Bool.not_false, true_and, and_true, Int.toNat_natCast, not_true_eq_false, not_false_eq_true, ne_eq, eq_self] at h1
    have b : (0 : Int) ≤ (i : Int) ∧ (i : Int) < (ss.length : Int) := ⟨by omega, by omega⟩
    exact ⟨b, b, b, b, (i + 1, _), ⟨by show i + 1 ≤ ss.length; omega, by show ss.length - (i + 1) < ss.length - i; omega⟩, rfl, rfl, rfl, rfl, by rw [w64 (by omega)]; show (i : Int) + 1 = ((i + 1 : Nat) : Int); omega, trivial⟩
  · exact h.elim)
noncomputable def e_heavy3 : List (FuncId × Con) := (23, heavy3Con) :: e_cpEvs
theorem e_heavy3_ok : ConsOk Tryd.prog (look e_heavy3) := cons_cons e_cpEvs_ok heavy3_ok
noncomputable def wakes3Con : Con := ⟨[], fun ags M K => match ags, M with
  | [], [] => (True) ∧ (K (.b true) [])
  | _, _ => False⟩
theorem wakes3_vc (K : AV → List Blk → Prop) : (evFn (env e_heavy3) Tryd.f30 ({ cfg1 with rt := some rtB }) [] [] K) = (
  (0 ≤ 4000000000000000000 ∧ 0 ≤ 4000000000000000000 ∧ 0 ≤ 4000000000000000000 ∧ 6 ≤ 4000000000000000000) ∧ ∀ (r : Parse × List Ev × Int), r = feedR (Parse.mk (0 : Int)
  (ByteArray.mk #[]) [] (ByteArray.mk #[]) (ByteArray.mk #[])) (ByteArray.mk #[(27 : UInt8), (91 : UInt8), (49 : UInt8), (59 : UInt8), (50 : UInt8), (72 : UInt8)]) → ∃ (b :
  Bool), (decide (r.snd.snd = (0 : Int)) = true → decide ((↑r.snd.fst.length : Int) = (1 : Int)) = b) ∧ ∃ (b_1 : Bool), ((decide (r.snd.snd = (0 : Int)) && b) = true → ((0
  : Int) ≤ (0 : Int) ∧ (0 : Int) < (↑r.snd.fst.length : Int)) ∧ 0 < r.snd.fst.length ∧ decide ((gt Kd.ev r.snd.fst 0).kind = (4 : Int)) = b_1) ∧ ∃ (b_2 : Bool), ((decide
  (r.snd.snd = (0 : Int)) && b && b_1) = true → ((0 : Int) ≤ (0 : Int) ∧ (0 : Int) < (↑r.snd.fst.length : Int)) ∧ 0 < r.snd.fst.length ∧ decide ((gt Kd.ev r.snd.fst 0).rune
  = (72 : Int)) = b_2) ∧ ∃ (b_3 : Bool), ((decide (r.snd.snd = (0 : Int)) && b && b_1 && b_2) = true → ((0 : Int) ≤ (0 : Int) ∧ (0 : Int) < (↑r.snd.fst.length : Int)) ∧ 0 <
  r.snd.fst.length ∧ (gt Kd.ev r.snd.fst 0).params.length ≤ 4611686018427387904 ∧ ∀ (r_1 : Bool), r_1 = decide ((gt Kd.ev r.snd.fst 0).params = [(1 : Int), (2 : Int)]) →
  r_1 = b_3) ∧ ∃ (x : Bool), (decide (r.snd.snd = (0 : Int)) && b && b_1 && b_2 && b_3) = x ∧ Leaf rtB K x) := by kernel_rfl

theorem wakes3_ok : ConOk Tryd.prog 30 wakes3Con := fn_ok2 (env_ok e_heavy3_ok) mixed Tryd.func30 rfl wakes3Con (by
  intro ags M K h
  unfold wakes3Con at h
  simp only at h
  split at h
  · skip
    refine ⟨{ cfg1 with rt := some rtB }, ?_⟩
    show evFn (env e_heavy3) _ _ [] [] _
    rw [wakes3_vc]
    obtain ⟨hp, h⟩ := h
    have hf : feedV (P0 0) ⟨#[27, 91, 49, 59, 50, 72]⟩ = (P0 0, [.sequence true 72 [1, 2] E0]) := by kernel_rfl
    have hr : feedR ⟨0, E0, [], E0, E0⟩ ⟨#[27, 91, 49, 59, 50, 72]⟩ = (P0 0, [⟨4, 72, [1, 2], E0, E0⟩], 0) := by
      rw [feedR, if_pos (pb_true.2 (p0_ok (Or.inl rfl))), if_pos (by decide)]
      show ((feedV (P0 0) _).1, (feedV (P0 0) _).2.map toldV, (0 : Int)) = _
      rw [hf]; kernel_rfl
    refine ⟨⟨by omega, by omega, by omega, by omega⟩, ?_⟩
    intro r e
    have e := e.trans hr
    subst e
    refine ⟨true, fun _ => rfl, true, fun _ => ⟨⟨by omega, by decide⟩, by decide, by kernel_rfl⟩, true, fun _ => ⟨⟨by omega, by decide⟩, by decide, by kernel_rfl⟩, true, fun _ => ⟨⟨by omega, by decide⟩, by decide, by decide, fun r h => by rw [h]; kernel_rfl⟩, true, by kernel_rfl, h⟩
  · exact h.elim)
noncomputable def e_wakes3 : List (FuncId × Con) := (30, wakes3Con) :: e_heavy3
theorem e_wakes3_ok : ConsOk Tryd.prog (look e_wakes3) := cons_cons e_heavy3_ok wakes3_ok
end Go.Cx
end
section
namespace Go.Cx
open Go Go.Sx Go.Proofs
set_option maxRecDepth 100000
set_option maxHeartbeats 0
/-! vt: each byte in each state; texts in two parts -/
def evSt : List Parse := [⟨0, E0, [], E0, E0⟩, ⟨0, ⟨#[226, 130]⟩, [], E0, E0⟩, ⟨1, E0, [], E0, E0⟩, ⟨2, E0, [], ⟨#[40]⟩, E0⟩, ⟨2, E0, [], ⟨#[32, 32, 32]⟩, E0⟩, ⟨3, E0, [], E0, E0⟩, ⟨3, E0, [5, -1], E0, E0⟩, ⟨3, E0, [9999], ⟨#[63]⟩, E0⟩, ⟨3, E0, [], ⟨#[63, 32, 33]⟩, E0⟩, ⟨4, E0, [], E0, E0⟩, ⟨5, E0, [], E0, ⟨#[48, 59, 97]⟩⟩, ⟨6, E0, [], E0, E0⟩, ⟨7, E0, [], E0, ⟨#[120]⟩⟩, ⟨8, E0, [], E0, E0⟩]
theorem runV_ok : ∀ (bs : List Int) (st : Parse × List Vev), StOk st.1 → (∀ e ∈ st.2, vevOk e) → (∀ b ∈ bs, 0 ≤ b ∧ b < 256) → StOk (runV st bs).1 ∧ (∀ e ∈ (runV st bs).2, vevOk e) ∧ (runV st bs).2.length ≤ st.2.length + 2 * bs.length
  | [], st, h1, h2, _ => ⟨h1, h2, by simp [runV]⟩
  | b :: r, st, h1, h2, h3 => by
    rw [runV]
    have hb := h3 b (List.mem_cons_self ..)
    have ih := runV_ok r ((takeS st.1 b).1, st.2 ++ (takeS st.1 b).2) (take_stok h1 hb.1 hb.2) (fun e he => by
      rcases List.mem_append.1 he with he | he
      · exact h2 e he
      · exact takeS_vev h1 b e he) (fun x hx => h3 x (List.mem_cons_of_mem _ hx))
    refine ⟨ih.1, ih.2.1, Nat.le_trans ih.2.2 ?_⟩
    have := takeS_len st.1 b
    simp only [List.length_append, List.length_cons]
    omega
theorem bytesL_byte {s : ByteArray} : ∀ b ∈ bytesL s, 0 ≤ b ∧ b < 256 := by
  intro b hb
  obtain ⟨j, hj, rfl⟩ := mem_bt hb
  exact bt_range s j
theorem feedV_ok {p : Parse} {s : ByteArray} (h : StOk p) : StOk (feedV p s).1 ∧ (∀ e ∈ (feedV p s).2, vevOk e) ∧ (feedV p s).2.length ≤ 2 * s.size := by
  have := runV_ok (bytesL s) (p, []) h (by simp) bytesL_byte
  refine ⟨this.1, this.2.1, ?_⟩
  have h3 := this.2.2
  rw [bytesL_len] at h3
  have e : (([] : List Vev)).length = 0 := rfl
  show (runV (p, []) (bytesL s)).2.length ≤ _
  simpa using h3
theorem toldV_par {e : Vev} (h : vevOk e) : (toldV e).params.length ≤ 16 := by
  cases e with
  | sequence csi la ps it =>
    cases csi with
    | true => exact h
    | false => exact Nat.zero_le _
  | _ => exact Nat.zero_le _
theorem told_par {l : List Vev} (h : ∀ e ∈ l, vevOk e) : ∀ e ∈ (l.map toldV : List Ev), e.params.length ≤ 16 := by
  intro e he
  obtain ⟨v, hv, rfl⟩ := List.mem_map.1 he
  exact toldV_par (h v hv)
theorem feedR_ok {p : Parse} {s : ByteArray} (h : StOk p) (hs : s.size ≤ 4000) : feedR p s = ((feedV p s).1, (feedV p s).2.map toldV, 0) := by
  rw [feedR, if_pos (pb_true.2 h), if_pos hs]
theorem evSt_ok : ∀ p ∈ evSt, p.inter.size ≤ 3 ∧ p.text.size ≤ 3 ∧ p.params.length ≤ 3 := by
  intro p hp
  simp only [evSt, List.mem_cons, List.not_mem_nil, or_false] at hp
  rcases hp with rfl | rfl | rfl | rfl | rfl | rfl | rfl | rfl | rfl | rfl | rfl | rfl | rfl | rfl <;> exact ⟨by decide, by decide, by decide⟩
def eaX (ss : List Parse) (l : List ByteArray) : List Blk := [.flat [.lt .parse ss, .lt .str l]]
noncomputable def eachCon : Con := ⟨[.g [some .parse, some .str]], fun ags M K => match ags, M with
  | [.agg [.lt .parse ss, .lt .str l]], [] => ((l.length ≤ 140737488351232 ∧ ∀ s ∈ (l : List ByteArray), s.size ≤ 140737488351232) ∧ ss.length ≤ 1759218604390 ∧ ∀ p ∈ (ss : List Parse), p.part.size ≤ 140737488351232 ∧ p.inter.size ≤ 140737488351232 ∧ p.text.size ≤ 140737488351232 ∧ p.params.length ≤ 140737488351232) ∧ (K (.b true) [])
  | _, _ => False⟩
theorem each_vc (ss : List Parse) (l : List ByteArray) (K : AV → List Blk → Prop) : (evFn (env e_wakes3) Tryd.f6 ({ cfg1 with rt := some rtB, fz := [20, 22], lp := fun r => match r with | 5 => some { X := Nat, fr := fun x => [(1, .ptr 0 0), (3, .own 1), (4, .i x)], M := fun x => [.flat [.lt .parse ss, .lt .str l], .arr .parse (evSt ++ ss)], inv := fun x => x ≤ (evSt ++ ss).length, mu := fun x => (evSt ++ ss).length - x } | 9 => some { X := Nat × Nat, fr := fun x => [(1, .ptr 0 0), (3, .own 1), (4, .i x.1), (5, .i x.2)], M := fun x => [.flat [.lt .parse ss, .lt .str l], .arr .parse (evSt ++ ss)], inv := fun _ => True, rel := fun x0 x => (x.1 < (evSt ++ ss).length ∧ x.1 < 19 ∧ x.2 ≤ 256 ∧ StOk (gt .parse (evSt ++ ss) x.1)) ∧ x.1 = x0.1, mu := fun x => 256 - x.2 } | _ => none }) [.agg [.lt .parse ss, .lt .str l]] [] K) = (
  ((l.length ≤ 140737488351232 ∧ ∀ (s : El Kd.str), s ∈ l → ByteArray.size s ≤ 140737488351232) ∧ ss.length ≤ 140737488351232) ∧ ∀ (r : Bool), (r = false → ∀ (s : El
  Kd.str), s ∈ l → ByteArray.size s ≤ 4000) → (r = true → ∃ (x : Bool), x = true ∧ Leaf rtB K x) ∧ (r = false → (14 + ss.length ≤ 140737488355328 ∧ (14 + ss.length) * 80 ≤
  140737488355328) ∧ ∃ (x0 : Nat), x0 ≤ (evSt ++ ss).length ∧ ss = ss ∧ l = l ∧ [Parse.mk (0 : Int) (ByteArray.mk #[]) [] (ByteArray.mk #[]) (ByteArray.mk #[]), Parse.mk (0
  : Int) (ByteArray.mk #[(226 : UInt8), (130 : UInt8)]) [] (ByteArray.mk #[]) (ByteArray.mk #[]), Parse.mk (1 : Int) (ByteArray.mk #[]) [] (ByteArray.mk #[]) (ByteArray.mk
  #[]), Parse.mk (2 : Int) (ByteArray.mk #[]) [] (ByteArray.mk #[(40 : UInt8)]) (ByteArray.mk #[]), Parse.mk (2 : Int) (ByteArray.mk #[]) [] (ByteArray.mk #[(32 : UInt8),
  (32 : UInt8), (32 : UInt8)]) (ByteArray.mk #[]), Parse.mk (3 : Int) (ByteArray.mk #[]) [] (ByteArray.mk #[]) (ByteArray.mk #[]), Parse.mk (3 : Int) (ByteArray.mk #[]) [(5
  : Int), (-1 : Int)] (ByteArray.mk #[]) (ByteArray.mk #[]), Parse.mk (3 : Int) (ByteArray.mk #[]) [(9999 : Int)] (ByteArray.mk #[(63 : UInt8)]) (ByteArray.mk #[]),
  Parse.mk (3 : Int) (ByteArray.mk #[]) [] (ByteArray.mk #[(63 : UInt8), (32 : UInt8), (33 : UInt8)]) (ByteArray.mk #[]), Parse.mk (4 : Int) (ByteArray.mk #[]) []
  (ByteArray.mk #[]) (ByteArray.mk #[]), Parse.mk (5 : Int) (ByteArray.mk #[]) [] (ByteArray.mk #[]) (ByteArray.mk #[(48 : UInt8), (59 : UInt8), (97 : UInt8)]), Parse.mk (6
  : Int) (ByteArray.mk #[]) [] (ByteArray.mk #[]) (ByteArray.mk #[]), Parse.mk (7 : Int) (ByteArray.mk #[]) [] (ByteArray.mk #[]) (ByteArray.mk #[(120 : UInt8)]), Parse.mk
  (8 : Int) (ByteArray.mk #[]) [] (ByteArray.mk #[]) (ByteArray.mk #[])] ++ ss = evSt ++ ss ∧ 0 = 0 ∧ (0 : Int) = (↑x0 : Int) ∧ ∀ (x : Nat), x ≤ (evSt ++ ss).length → ∃ (b
  : Bool), (decide ((↑x : Int) < (↑(evSt ++ ss).length : Int)) = true → decide ((↑x : Int) < (19 : Int)) = b) ∧ ((decide ((↑x : Int) < (↑(evSt ++ ss).length : Int)) && b) =
  true → ((0 : Int) ≤ (↑x : Int) ∧ (↑x : Int) < (↑(evSt ++ ss).length : Int)) ∧ (↑x : Int).toNat < (evSt ++ ss).length ∧ ((gt Kd.parse (evSt ++ ss) (↑x :
  Int).toNat).inter.size ≤ 4000000000000000000 ∧ (gt Kd.parse (evSt ++ ss) (↑x : Int).toNat).text.size ≤ 4000000000000000000 ∧ (gt Kd.parse (evSt ++ ss) (↑x :
  Int).toNat).params.length ≤ 4000000000000000000) ∧ ∀ (r : Bool), r = pb (StOk (Parse.mk (gt Kd.parse (evSt ++ ss) (↑x : Int).toNat).state (gt Kd.parse (evSt ++ ss) (↑x :
  Int).toNat).part (gt Kd.parse (evSt ++ ss) (↑x : Int).toNat).params (gt Kd.parse (evSt ++ ss) (↑x : Int).toNat).inter (gt Kd.parse (evSt ++ ss) (↑x : Int).toNat).text)) →
  ((!r) = true → ∃ (x' : Nat), (x' ≤ (evSt ++ ss).length ∧ (evSt ++ ss).length - x' < (evSt ++ ss).length - x) ∧ ss = ss ∧ l = l ∧ evSt ++ ss = evSt ++ ss ∧ 0 = 0 ∧
  IntKind.i64.wrap ((↑x : Int) + (1 : Int)) = (↑x' : Int) ∧ True) ∧ ((!r) = false → ∃ (x0 : Nat × Nat), ((x0.fst < (evSt ++ ss).length ∧ x0.fst < 19 ∧ x0.snd ≤ 256 ∧ StOk
  (gt Kd.parse (evSt ++ ss) x0.fst)) ∧ x0.fst = x0.fst) ∧ ss = ss ∧ l = l ∧ evSt ++ ss = evSt ++ ss ∧ 0 = 0 ∧ (↑x : Int) = (↑x0.fst : Int) ∧ (0 : Int) = (↑x0.snd : Int) ∧ ∀
  (x_1 : Nat × Nat), (x_1.fst < (evSt ++ ss).length ∧ x_1.fst < 19 ∧ x_1.snd ≤ 256 ∧ StOk (gt Kd.parse (evSt ++ ss) x_1.fst)) ∧ x_1.fst = x0.fst → (decide ((↑x_1.snd : Int)
  < (256 : Int)) = true → ((0 : Int) ≤ (↑x_1.fst : Int) ∧ (↑x_1.fst : Int) < (↑(evSt ++ ss).length : Int)) ∧ (↑x_1.fst : Int).toNat < (evSt ++ ss).length ∧ ((gt Kd.parse
  (evSt ++ ss) (↑x_1.fst : Int).toNat).inter.size ≤ 4000000000000000000 ∧ (gt Kd.parse (evSt ++ ss) (↑x_1.fst : Int).toNat).text.size ≤ 4000000000000000000 ∧ (gt Kd.parse
  (evSt ++ ss) (↑x_1.fst : Int).toNat).params.length ≤ 4000000000000000000 ∧ (strBytes [IntKind.u8.wrap (↑x_1.snd : Int)]).size ≤ 4000000000000000000) ∧ ∀ (r : Parse × List
  Ev × Int), r = feedR (Parse.mk (gt Kd.parse (evSt ++ ss) (↑x_1.fst : Int).toNat).state (gt Kd.parse (evSt ++ ss) (↑x_1.fst : Int).toNat).part (gt Kd.parse (evSt ++ ss)
  (↑x_1.fst : Int).toNat).params (gt Kd.parse (evSt ++ ss) (↑x_1.fst : Int).toNat).inter (gt Kd.parse (evSt ++ ss) (↑x_1.fst : Int).toNat).text) (strBytes [IntKind.u8.wrap
  (↑x_1.snd : Int)]) → ((0 : Int) ≤ (↑x_1.fst : Int) ∧ (↑x_1.fst : Int) < (↑(evSt ++ ss).length : Int)) ∧ (↑x_1.fst : Int).toNat < (evSt ++ ss).length ∧ (StOk (Parse.mk (gt
  Kd.parse (evSt ++ ss) (↑x_1.fst : Int).toNat).state (gt Kd.parse (evSt ++ ss) (↑x_1.fst : Int).toNat).part (gt Kd.parse (evSt ++ ss) (↑x_1.fst : Int).toNat).params (gt
  Kd.parse (evSt ++ ss) (↑x_1.fst : Int).toNat).inter (gt Kd.parse (evSt ++ ss) (↑x_1.fst : Int).toNat).text) ∧ (strBytes [IntKind.u8.wrap (↑x_1.snd : Int)]).size ≤ 4000) ∧
  ∀ (r_1 : Parse × List Ev), r_1 = ((takeS (Parse.mk (gt Kd.parse (evSt ++ ss) (↑x_1.fst : Int).toNat).state (gt Kd.parse (evSt ++ ss) (↑x_1.fst : Int).toNat).part (gt
  Kd.parse (evSt ++ ss) (↑x_1.fst : Int).toNat).params (gt Kd.parse (evSt ++ ss) (↑x_1.fst : Int).toNat).inter (gt Kd.parse (evSt ++ ss) (↑x_1.fst : Int).toNat).text) ((fun
  (b : UInt8) => (↑b.toNat : Int)) ((fun (n : Int) => UInt8.ofNat n.toNat) (IntKind.u8.wrap (↑x_1.snd : Int))))).fst, List.map toldV ([] ++ (takeS (Parse.mk (gt Kd.parse
  (evSt ++ ss) (↑x_1.fst : Int).toNat).state (gt Kd.parse (evSt ++ ss) (↑x_1.fst : Int).toNat).part (gt Kd.parse (evSt ++ ss) (↑x_1.fst : Int).toNat).params (gt Kd.parse
  (evSt ++ ss) (↑x_1.fst : Int).toNat).inter (gt Kd.parse (evSt ++ ss) (↑x_1.fst : Int).toNat).text) ((fun (b : UInt8) => (↑b.toNat : Int)) ((fun (n : Int) => UInt8.ofNat
  n.toNat) (IntKind.u8.wrap (↑x_1.snd : Int))))).snd)) → ∃ (b : Bool), ((!decide (r.snd.snd = (0 : Int))) = false → (r.snd.fst.length ≤ 4611686018427387904 ∧ ∀ (e : El
  Kd.ev), e ∈ r.snd.fst → e.params.length ≤ 4611686018427387904) ∧ ∀ (r_2 : Bool), r_2 = pb (r.snd.fst = r_1.snd) → (!r_2) = b) ∧ ∃ (b_1 : Bool), ((!decide (r.snd.snd = (0
  : Int)) || b) = false → r.fst.params.length ≤ 4611686018427387904 ∧ ∀ (r_2 : Bool), r_2 = pb (Parse.mk r.fst.state r.fst.part r.fst.params r.fst.inter r.fst.text =
  Parse.mk r_1.fst.state r_1.fst.part r_1.fst.params r_1.fst.inter r_1.fst.text) → (!r_2) = b_1) ∧ ((!decide (r.snd.snd = (0 : Int)) || b || b_1) = true → ∃ (x : Bool), x =
  false ∧ Leaf rtB K x) ∧ ((!decide (r.snd.snd = (0 : Int)) || b || b_1) = false → ∃ (x' : Nat × Nat), (((x'.fst < (evSt ++ ss).length ∧ x'.fst < 19 ∧ x'.snd ≤ 256 ∧ StOk
  (gt Kd.parse (evSt ++ ss) x'.fst)) ∧ x'.fst = x0.fst) ∧ 256 - x'.snd < 256 - x_1.snd) ∧ ss = ss ∧ l = l ∧ evSt ++ ss = evSt ++ ss ∧ 0 = 0 ∧ (↑x_1.fst : Int) = (↑x'.fst :
  Int) ∧ IntKind.i64.wrap ((↑x_1.snd : Int) + (1 : Int)) = (↑x'.snd : Int) ∧ True)) ∧ (decide ((↑x_1.snd : Int) < (256 : Int)) = false → ∃ (x' : Nat), (x' ≤ (evSt ++
  ss).length ∧ (evSt ++ ss).length - x' < (evSt ++ ss).length - x) ∧ ss = ss ∧ l = l ∧ evSt ++ ss = evSt ++ ss ∧ 0 = 0 ∧ IntKind.i64.wrap ((↑x_1.fst : Int) + (1 : Int)) =
  (↑x' : Int) ∧ True))) ∧ ((decide ((↑x : Int) < (↑(evSt ++ ss).length : Int)) && b) = false → True ∧ ∃ (x : Bool), true = x ∧ Leaf rtB K x))) := by kernel_rfl

theorem each_ok : ConOk Tryd.prog 6 eachCon := fn_ok2 (env_ok e_wakes3_ok) mixed Tryd.func6 rfl eachCon (by
  intro ags M K h
  unfold eachCon at h
  simp only at h
  split at h
  · rename_i ss l
    refine ⟨{ cfg1 with rt := some rtB, fz := [20, 22], lp := fun r => match r with | 5 => some { X := Nat, fr := fun x => [(1, .ptr 0 0), (3, .own 1), (4, .i x)], M := fun x => [.flat [.lt .parse ss, .lt .str l], .arr .parse (evSt ++ ss)], inv := fun x => x ≤ (evSt ++ ss).length, mu := fun x => (evSt ++ ss).length - x } | 9 => some { X := Nat × Nat, fr := fun x => [(1, .ptr 0 0), (3, .own 1), (4, .i x.1), (5, .i x.2)], M := fun x => [.flat [.lt .parse ss, .lt .str l], .arr .parse (evSt ++ ss)], inv := fun _ => True, rel := fun x0 x => (x.1 < (evSt ++ ss).length ∧ x.1 < 19 ∧ x.2 ≤ 256 ∧ StOk (gt .parse (evSt ++ ss) x.1)) ∧ x.1 = x0.1, mu := fun x => 256 - x.2 } | _ => none }, ?_⟩
    show evFn (env e_wakes3) _ _ [.agg [.lt .parse ss, .lt .str l]] [] _
    rw [each_vc]
    obtain ⟨hp, h⟩ := h
    obtain ⟨⟨p1, p2⟩, p3, p4⟩ := hp
    have hu : evSt.length = 14 := rfl
    have hlen : (evSt ++ ss).length = 14 + ss.length := by rw [List.length_append]; rfl
    refine ⟨⟨⟨p1, p2⟩, by omega⟩, fun r hr => ⟨fun _ => ⟨_, rfl, h⟩, fun hr0 => ⟨⟨by omega, by omega⟩, 0, Nat.zero_le _, rfl, rfl, rfl, rfl, rfl, ?_⟩⟩⟩
    clear hr hr0
    intro i q1
    refine ⟨_, fun _ => rfl, fun h1 => ?_, fun h1 => ⟨trivial, _, rfl, h⟩⟩
    simp only [strBytes_size, ByteArray.size_append, List.length_append, List.length_cons, List.length_nil, Nat.zero_add, Bool.and_eq_true, Bool.or_eq_true, Bool.and_eq_false_iff, Bool.or_eq_false_iff, decide_eq_true_eq, decide_eq_false_iff_not, Bool.not_eq_true', Bool.not_eq_eq_eq_not, Bool.not_true, Bool.not_false, true_and, and_true, Int.toNat_natCast, not_true_eq_false, not_false_eq_true, ne_eq, eq_self] at h1
    obtain ⟨h1, h1b⟩ := h1
    have hb : (0 : Int) ≤ (i : Int) ∧ (i : Int) < ((evSt ++ ss).length : Int) := ⟨by omega, by omega⟩
    have hn : (i : Int).toNat < (evSt ++ ss).length := by omega
    rw [Int.toNat_natCast] at hn ⊢
    have hg := List.mem_of_getElem? (gt_lt (k := .parse) hn)
    have hz : (gt Kd.parse (evSt ++ ss) i).inter.size ≤ 4000000000000000000 ∧ (gt Kd.parse (evSt ++ ss) i).text.size ≤ 4000000000000000000 ∧ (gt Kd.parse (evSt ++ ss) i).params.length ≤ 4000000000000000000 := by
      rcases List.mem_append.1 hg with hg | hg
      · have := evSt_ok _ hg; omega
      · have := p4 _ hg; omega
    refine ⟨hb, hn, hz, fun r hr => ⟨fun h2 => ⟨i + 1, ⟨by omega, by omega⟩, rfl, rfl, rfl, rfl, by rw [w64 (by omega)]; omega, trivial⟩, fun h2 => ?_⟩⟩
    have hst : StOk (gt Kd.parse (evSt ++ ss) i) := by
      have h2 : r = true := (Bool.not_eq_false' _).mp h2
      exact pb_true.1 (hr.symm.trans h2)
    refine ⟨(i, 0), ⟨⟨hn, by omega, Nat.zero_le _, hst⟩, rfl⟩, rfl, rfl, rfl, rfl, rfl, rfl, ?_⟩
    rintro ⟨j, b⟩ ⟨⟨c1, c2, c3, c4⟩, c5⟩
    dsimp only at c1 c2 c3 c4 c5 ⊢
    subst c5
    refine ⟨fun d1 => ?_, fun d1 => ⟨j + 1, ⟨by omega, by omega⟩, rfl, rfl, rfl, rfl, by rw [w64 (by omega)]; omega, trivial⟩⟩
    simp only [strBytes_size, ByteArray.size_append, List.length_append, List.length_cons, List.length_nil, Nat.zero_add, Bool.and_eq_true, Bool.or_eq_true, Bool.and_eq_false_iff, Bool.or_eq_false_iff, decide_eq_true_eq, decide_eq_false_iff_not, Bool.not_eq_true', Bool.not_eq_eq_eq_not, Bool.not_true, Bool.not_false, true_and, and_true, Int.toNat_natCast, not_true_eq_false, not_false_eq_true, ne_eq, eq_self] at d1
    rw [Int.toNat_natCast]
    have hs1 : (strBytes [IntKind.u8.wrap (b : Int)]).size = 1 := by rw [strBytes_size]; rfl
    refine ⟨hb, hn, ⟨hz.1, hz.2.1, hz.2.2, by omega⟩, fun r hr => ⟨hb, hn, ⟨hst, by omega⟩, fun r1 hr1 => ?_⟩⟩
    have hr := hr.trans (feedR_ok hst (by omega))
    have hr1 : r1 = ((feedV (gt Kd.parse (evSt ++ ss) j) (strBytes [IntKind.u8.wrap (b : Int)])).1, (feedV (gt Kd.parse (evSt ++ ss) j) (strBytes [IntKind.u8.wrap (b : Int)])).2.map toldV) := hr1
    obtain ⟨f1, f2, f3⟩ := feedV_ok (s := strBytes [IntKind.u8.wrap (b : Int)]) hst
    subst hr hr1
    have f4 : (feedV (gt Kd.parse (evSt ++ ss) j) (strBytes [IntKind.u8.wrap (b : Int)])).1.params.length ≤ 16 := f1.2.2.2.1
    have f5 := told_par f2
    refine ⟨false, fun _ => ⟨⟨by dsimp only; rw [List.length_map]; exact Nat.le_trans f3 (by omega), fun e he => by have := f5 e he; omega⟩, fun r e => by rw [e, pb_true.2 rfl]; rfl⟩, false, fun _ => ⟨Nat.le_trans f4 (by omega), fun r e => by rw [e, pb_true.2 rfl]; rfl⟩, fun q => by simp at q, fun _ => ⟨(j, b + 1), ⟨⟨⟨hn, by omega, by omega, hst⟩, rfl⟩, by omega⟩, rfl, rfl, rfl, rfl, rfl, by rw [w64 (by omega)]; omega, trivial⟩⟩
  · exact h.elim)
noncomputable def e_each : List (FuncId × Con) := (6, eachCon) :: e_wakes3
theorem e_each_ok : ConsOk Tryd.prog (look e_each) := cons_cons e_wakes3_ok each_ok
end Go.Cx
end
section
namespace Go.Cx
open Go Go.Sx Go.Proofs
set_option maxRecDepth 100000
set_option maxHeartbeats 0
/-! vt: texts in two parts -/
def pz : Parse := ⟨0, E0, [], E0, E0⟩
theorem runV_app : ∀ (a b : List Int) (st : Parse × List Vev), runV st (a ++ b) = runV (runV st a) b
  | [], b, st => rfl
  | x :: a, b, st => by rw [List.cons_append, runV, runV, runV_app a b]
theorem runV_acc : ∀ (bs : List Int) (p : Parse) (acc x : List Vev), runV (p, acc ++ x) bs = ((runV (p, x) bs).1, acc ++ (runV (p, x) bs).2)
  | [], p, acc, x => rfl
  | b :: r, p, acc, x => by
    rw [runV, runV]
    dsimp only
    rw [List.append_assoc, runV_acc r]
theorem bytesL_ext2 (s : ByteArray) (a b : Nat) : bytesL (s.extract a b) = ((bytesL s).take b).drop a := by
  unfold bytesL
  simp only [ByteArray.data_extract, Array.toList_extract, List.extract_eq_take_drop, List.map_take, List.map_drop, List.drop_take]
theorem feedV_split (p : Parse) (s : ByteArray) (k : Nat) : feedV p s = ((feedV (feedV p (s.extract 0 k)).1 (s.extract k s.size)).1, (feedV p (s.extract 0 k)).2 ++ (feedV (feedV p (s.extract 0 k)).1 (s.extract k s.size)).2) := by
  have e : (bytesL s).take s.size = bytesL s := List.take_of_length_le (by rw [bytesL_len]; exact Nat.le_refl _)
  have h : bytesL s = bytesL (s.extract 0 k) ++ bytesL (s.extract k s.size) := by
    rw [bytesL_ext2, bytesL_ext2, List.drop_zero, e, List.take_append_drop]
  unfold feedV
  rw [← runV_acc, List.append_nil, ← runV_app, ← h]
noncomputable def splitsCon : Con := ⟨[.g [some .parse, some .str]], fun ags M K => match ags, M with
  | [.agg [.lt .parse ss, .lt .str l]], [] => ((l.length ≤ 140737488351232 ∧ ∀ s ∈ (l : List ByteArray), s.size ≤ 140737488351232) ∧ ss.length ≤ 1759218604390) ∧ (K (.b true) [])
  | _, _ => False⟩
theorem splits_vc (ss : List Parse) (l : List ByteArray) (K : AV → List Blk → Prop) : (evFn (env e_wakes3) Tryd.f8 ({ cfg0 with rt := some rtB, lp := fun r => match r with | 4 => some { X := Nat, fr := fun x => [(1, .ptr 0 0), (3, .i x)], M := fun x => [.flat [.lt .parse ss, .lt .str l]], inv := fun x => x ≤ l.length, mu := fun x => l.length - x } | 12 => some { X := Nat × Nat × Parse × List Ev × ByteArray, fr := fun x => [(1, .ptr 0 0), (3, .i x.1), (4, .s x.2.2.2.2), (5, .own 1), (6, .ptr 2 0), (8, .i x.2.1)], M := fun x => [.flat [.lt .parse ss, .lt .str l], .arr .ev x.2.2.2.1, .flat [.i x.2.2.1.state, .s x.2.2.1.part, .own 3, .s x.2.2.1.inter, .s x.2.2.1.text], ints x.2.2.1.params], inv := fun _ => True, rel := fun x0 x => x.2.1 ≤ x.2.2.2.2.size + 1 ∧ x.1 = x0.1 ∧ x.2.2 = x0.2.2, mu := fun x => x.2.2.2.2.size + 1 - x.2.1 } | _ => none }) [.agg [.lt .parse ss, .lt .str l]] [] K) = (
  ((l.length ≤ 140737488351232 ∧ ∀ (s : El Kd.str), s ∈ l → ByteArray.size s ≤ 140737488351232) ∧ ss.length ≤ 140737488351232) ∧ ∀ (r : Bool), (r = false → ∀ (s : El
  Kd.str), s ∈ l → ByteArray.size s ≤ 4000) → (r = true → ∃ (x : Bool), x = true ∧ Leaf rtB K x) ∧ (r = false → ∃ (x0 : Nat), x0 ≤ l.length ∧ ss = ss ∧ l = l ∧ 0 = 0 ∧ (0 :
  Int) = (↑x0 : Int) ∧ ∀ (x : Nat), x ≤ l.length → (decide ((↑x : Int) < (↑l.length : Int)) = true → (decide ((↑x : Int) < (5 : Int)) = true → ((0 : Int) ≤ (↑x : Int) ∧ (↑x
  : Int) < (↑l.length : Int)) ∧ (decide ((120 : Int) < (↑(ByteArray.size (gt Kd.str l (↑x : Int).toNat)) : Int)) = true → ∃ (x' : Nat), (x' ≤ l.length ∧ l.length - x' <
  l.length - x) ∧ ss = ss ∧ l = l ∧ 0 = 0 ∧ IntKind.i64.wrap ((↑x : Int) + (1 : Int)) = (↑x' : Int) ∧ True) ∧ (decide ((120 : Int) < (↑(ByteArray.size (gt Kd.str l (↑x :
  Int).toNat)) : Int)) = false → (0 ≤ 4000000000000000000 ∧ 0 ≤ 4000000000000000000 ∧ 0 ≤ 4000000000000000000 ∧ ByteArray.size (gt Kd.str l (↑x : Int).toNat) ≤
  4000000000000000000) ∧ ∀ (r : Parse × List Ev × Int), r = feedR (Parse.mk (0 : Int) (ByteArray.mk #[]) [] (ByteArray.mk #[]) (ByteArray.mk #[])) (gt Kd.str l (↑x :
  Int).toNat) → ((!decide (r.snd.snd = (0 : Int))) = true → ∃ (x : Bool), x = false ∧ Leaf rtB K x) ∧ ((!decide (r.snd.snd = (0 : Int))) = false → ∃ (x0 : Nat × Nat × Parse
  × List Ev × ByteArray), (x0.snd.fst ≤ x0.snd.snd.snd.snd.size + 1 ∧ x0.fst = x0.fst ∧ x0.snd.snd = x0.snd.snd) ∧ ss = ss ∧ l = l ∧ r.snd.fst = x0.snd.snd.snd.fst ∧
  r.fst.state = x0.snd.snd.fst.state ∧ r.fst.part = x0.snd.snd.fst.part ∧ r.fst.inter = x0.snd.snd.fst.inter ∧ r.fst.text = x0.snd.snd.fst.text ∧ r.fst.params =
  x0.snd.snd.fst.params ∧ 0 = 0 ∧ (↑x : Int) = (↑x0.fst : Int) ∧ gt Kd.str l (↑x : Int).toNat = x0.snd.snd.snd.snd ∧ 0 = 0 ∧ (0 : Int) = (↑x0.snd.fst : Int) ∧ ∀ (x_1 : Nat
  × Nat × Parse × List Ev × ByteArray), x_1.snd.fst ≤ x_1.snd.snd.snd.snd.size + 1 ∧ x_1.fst = x0.fst ∧ x_1.snd.snd = x0.snd.snd → (decide ((↑x_1.snd.fst : Int) ≤
  (↑x_1.snd.snd.snd.snd.size : Int)) = true → ((0 : Int) ≤ none.getD (0 : Int) ∧ none.getD (0 : Int) ≤ (some (↑x_1.snd.fst : Int)).getD (↑x_1.snd.snd.snd.snd.size : Int) ∧
  (some (↑x_1.snd.fst : Int)).getD (↑x_1.snd.snd.snd.snd.size : Int) ≤ (↑x_1.snd.snd.snd.snd.size : Int)) ∧ (0 ≤ 4000000000000000000 ∧ 0 ≤ 4000000000000000000 ∧ 0 ≤
  4000000000000000000 ∧ (x_1.snd.snd.snd.snd.extract 0 ((some (↑x_1.snd.fst : Int)).getD (↑x_1.snd.snd.snd.snd.size : Int)).toNat).size ≤ 4000000000000000000) ∧ ∀ (r :
  Parse × List Ev × Int), r = feedR (Parse.mk (0 : Int) (ByteArray.mk #[]) [] (ByteArray.mk #[]) (ByteArray.mk #[])) (x_1.snd.snd.snd.snd.extract 0 ((some (↑x_1.snd.fst :
  Int)).getD (↑x_1.snd.snd.snd.snd.size : Int)).toNat) → ((0 : Int) ≤ (some (↑x_1.snd.fst : Int)).getD (0 : Int) ∧ (some (↑x_1.snd.fst : Int)).getD (0 : Int) ≤ none.getD
  (↑x_1.snd.snd.snd.snd.size : Int) ∧ none.getD (↑x_1.snd.snd.snd.snd.size : Int) ≤ (↑x_1.snd.snd.snd.snd.size : Int)) ∧ (r.fst.inter.size ≤ 4000000000000000000 ∧
  r.fst.text.size ≤ 4000000000000000000 ∧ r.fst.params.length ≤ 4000000000000000000 ∧ (x_1.snd.snd.snd.snd.extract ((some (↑x_1.snd.fst : Int)).getD (0 : Int)).toNat
  (none.getD (↑x_1.snd.snd.snd.snd.size : Int)).toNat).size ≤ 4000000000000000000) ∧ ∀ (r_1 : Parse × List Ev × Int), r_1 = feedR (Parse.mk r.fst.state r.fst.part
  r.fst.params r.fst.inter r.fst.text) (x_1.snd.snd.snd.snd.extract ((some (↑x_1.snd.fst : Int)).getD (0 : Int)).toNat (none.getD (↑x_1.snd.snd.snd.snd.size : Int)).toNat)
  → ((!decide (r.snd.snd = (0 : Int))) = true → ∃ (x : Bool), x = false ∧ Leaf rtB K x) ∧ ((!decide (r.snd.snd = (0 : Int))) = false → ((!decide (r_1.snd.snd = (0 : Int)))
  = true → ∃ (x : Bool), x = false ∧ Leaf rtB K x) ∧ ((!decide (r_1.snd.snd = (0 : Int))) = false → (r.fst.inter.size ≤ 4000000000000000000 ∧ r.fst.text.size ≤
  4000000000000000000 ∧ r.fst.params.length ≤ 4000000000000000000) ∧ ∀ (r_2 : Bool), r_2 = pb (StOk (Parse.mk r.fst.state r.fst.part r.fst.params r.fst.inter r.fst.text)) →
  ((!r_2) = true → ((!decide ((1 : Int) = (0 : Int))) = true → ∃ (x : Bool), x = false ∧ Leaf rtB K x) ∧ ((!decide ((1 : Int) = (0 : Int))) = false →
  x_1.snd.snd.fst.params.length ≤ 4611686018427387904 ∧ ∀ (r_3 : Bool), r_3 = pb (Parse.mk x_1.snd.snd.fst.state x_1.snd.snd.fst.part x_1.snd.snd.fst.params
  x_1.snd.snd.fst.inter x_1.snd.snd.fst.text = Parse.mk r_1.fst.state r_1.fst.part r_1.fst.params r_1.fst.inter r_1.fst.text) → ((!r_3) = true → ∃ (x : Bool), x = false ∧
  Leaf rtB K x) ∧ ((!r_3) = false → (r.snd.fst.length ≤ 100000000 ∧ ∀ (e : El Kd.ev), e ∈ r.snd.fst → e.params.length ≤ 100000000) ∧ (r.snd.fst.length + r_1.snd.fst.length
  ≤ 140737488355328 ∧ (r.snd.fst.length + r_1.snd.fst.length) * 72 ≤ 140737488355328) ∧ ((r.snd.fst ++ r_1.snd.fst).length ≤ 4611686018427387904 ∧ ∀ (e : El Kd.ev), e ∈
  r.snd.fst ++ r_1.snd.fst → e.params.length ≤ 4611686018427387904) ∧ ∀ (r_4 : Bool), r_4 = pb (r.snd.fst ++ r_1.snd.fst = x_1.snd.snd.snd.fst) → ((!r_4) = true → ∃ (x :
  Bool), x = false ∧ Leaf rtB K x) ∧ ((!r_4) = false → ∃ (x' : Nat × Nat × Parse × List Ev × ByteArray), ((x'.snd.fst ≤ x'.snd.snd.snd.snd.size + 1 ∧ x'.fst = x0.fst ∧
  x'.snd.snd = x0.snd.snd) ∧ x'.snd.snd.snd.snd.size + 1 - x'.snd.fst < x_1.snd.snd.snd.snd.size + 1 - x_1.snd.fst) ∧ ss = ss ∧ l = l ∧ x_1.snd.snd.snd.fst =
  x'.snd.snd.snd.fst ∧ x_1.snd.snd.fst.state = x'.snd.snd.fst.state ∧ x_1.snd.snd.fst.part = x'.snd.snd.fst.part ∧ x_1.snd.snd.fst.inter = x'.snd.snd.fst.inter ∧
  x_1.snd.snd.fst.text = x'.snd.snd.fst.text ∧ x_1.snd.snd.fst.params = x'.snd.snd.fst.params ∧ 0 = 0 ∧ (↑x_1.fst : Int) = (↑x'.fst : Int) ∧ x_1.snd.snd.snd.snd =
  x'.snd.snd.snd.snd ∧ 0 = 0 ∧ IntKind.i64.wrap ((↑x_1.snd.fst : Int) + (1 : Int)) = (↑x'.snd.fst : Int) ∧ True)))) ∧ ((!r_2) = false → ((!decide ((0 : Int) = (0 : Int))) =
  true → ∃ (x : Bool), x = false ∧ Leaf rtB K x) ∧ ((!decide ((0 : Int) = (0 : Int))) = false → x_1.snd.snd.fst.params.length ≤ 4611686018427387904 ∧ ∀ (r_3 : Bool), r_3 =
  pb (Parse.mk x_1.snd.snd.fst.state x_1.snd.snd.fst.part x_1.snd.snd.fst.params x_1.snd.snd.fst.inter x_1.snd.snd.fst.text = Parse.mk r_1.fst.state r_1.fst.part
  r_1.fst.params r_1.fst.inter r_1.fst.text) → ((!r_3) = true → ∃ (x : Bool), x = false ∧ Leaf rtB K x) ∧ ((!r_3) = false → (r.snd.fst.length ≤ 100000000 ∧ ∀ (e : El
  Kd.ev), e ∈ r.snd.fst → e.params.length ≤ 100000000) ∧ (r.snd.fst.length + r_1.snd.fst.length ≤ 140737488355328 ∧ (r.snd.fst.length + r_1.snd.fst.length) * 72 ≤
  140737488355328) ∧ ((r.snd.fst ++ r_1.snd.fst).length ≤ 4611686018427387904 ∧ ∀ (e : El Kd.ev), e ∈ r.snd.fst ++ r_1.snd.fst → e.params.length ≤ 4611686018427387904) ∧ ∀
  (r_4 : Bool), r_4 = pb (r.snd.fst ++ r_1.snd.fst = x_1.snd.snd.snd.fst) → ((!r_4) = true → ∃ (x : Bool), x = false ∧ Leaf rtB K x) ∧ ((!r_4) = false → ∃ (x' : Nat × Nat ×
  Parse × List Ev × ByteArray), ((x'.snd.fst ≤ x'.snd.snd.snd.snd.size + 1 ∧ x'.fst = x0.fst ∧ x'.snd.snd = x0.snd.snd) ∧ x'.snd.snd.snd.snd.size + 1 - x'.snd.fst <
  x_1.snd.snd.snd.snd.size + 1 - x_1.snd.fst) ∧ ss = ss ∧ l = l ∧ x_1.snd.snd.snd.fst = x'.snd.snd.snd.fst ∧ x_1.snd.snd.fst.state = x'.snd.snd.fst.state ∧
  x_1.snd.snd.fst.part = x'.snd.snd.fst.part ∧ x_1.snd.snd.fst.inter = x'.snd.snd.fst.inter ∧ x_1.snd.snd.fst.text = x'.snd.snd.fst.text ∧ x_1.snd.snd.fst.params =
  x'.snd.snd.fst.params ∧ 0 = 0 ∧ (↑x_1.fst : Int) = (↑x'.fst : Int) ∧ x_1.snd.snd.snd.snd = x'.snd.snd.snd.snd ∧ 0 = 0 ∧ IntKind.i64.wrap ((↑x_1.snd.fst : Int) + (1 :
  Int)) = (↑x'.snd.fst : Int) ∧ True))))))) ∧ (decide ((↑x_1.snd.fst : Int) ≤ (↑x_1.snd.snd.snd.snd.size : Int)) = false → ∃ (x' : Nat), (x' ≤ l.length ∧ l.length - x' <
  l.length - x) ∧ ss = ss ∧ l = l ∧ 0 = 0 ∧ IntKind.i64.wrap ((↑x_1.fst : Int) + (1 : Int)) = (↑x' : Int) ∧ True)))) ∧ (decide ((↑x : Int) < (5 : Int)) = false → True ∧ ∃
  (x : Bool), true = x ∧ Leaf rtB K x)) ∧ (decide ((↑x : Int) < (↑l.length : Int)) = false → True ∧ ∃ (x : Bool), true = x ∧ Leaf rtB K x))) := by kernel_rfl

theorem splits_ok : ConOk Tryd.prog 8 splitsCon := fn_ok2 (env_ok e_wakes3_ok) mixed Tryd.func8 rfl splitsCon (by
  intro ags M K h
  unfold splitsCon at h
  simp only at h
  split at h
  · rename_i ss l
    refine ⟨{ cfg0 with rt := some rtB, lp := fun r => match r with | 4 => some { X := Nat, fr := fun x => [(1, .ptr 0 0), (3, .i x)], M := fun x => [.flat [.lt .parse ss, .lt .str l]], inv := fun x => x ≤ l.length, mu := fun x => l.length - x } | 12 => some { X := Nat × Nat × Parse × List Ev × ByteArray, fr := fun x => [(1, .ptr 0 0), (3, .i x.1), (4, .s x.2.2.2.2), (5, .own 1), (6, .ptr 2 0), (8, .i x.2.1)], M := fun x => [.flat [.lt .parse ss, .lt .str l], .arr .ev x.2.2.2.1, .flat [.i x.2.2.1.state, .s x.2.2.1.part, .own 3, .s x.2.2.1.inter, .s x.2.2.1.text], ints x.2.2.1.params], inv := fun _ => True, rel := fun x0 x => x.2.1 ≤ x.2.2.2.2.size + 1 ∧ x.1 = x0.1 ∧ x.2.2 = x0.2.2, mu := fun x => x.2.2.2.2.size + 1 - x.2.1 } | _ => none }, ?_⟩
    show evFn (env e_wakes3) _ _ [.agg [.lt .parse ss, .lt .str l]] [] _
    rw [splits_vc]
    obtain ⟨hp, h⟩ := h
    obtain ⟨⟨p1, p2⟩, p3⟩ := hp
    refine ⟨⟨⟨p1, p2⟩, by omega⟩, fun r hr => ⟨fun _ => ⟨_, rfl, h⟩, fun hr0 => ⟨0, Nat.zero_le _, rfl, rfl, rfl, rfl, ?_⟩⟩⟩
    have hr := hr hr0
    clear hr0
    intro i q1
    refine ⟨fun h1 => ⟨fun h2 => ?_, fun _ => ⟨trivial, _, rfl, h⟩⟩, fun _ => ⟨trivial, _, rfl, h⟩⟩
    simp only [strBytes_size, ByteArray.size_append, List.length_append, List.length_cons, List.length_nil, Nat.zero_add, Bool.and_eq_true, Bool.or_eq_true, Bool.and_eq_false_iff, Bool.or_eq_false_iff, decide_eq_true_eq, decide_eq_false_iff_not, Bool.not_eq_true', Bool.not_eq_eq_eq_not, Bool.not_true, Bool.not_false, true_and, and_true, Int.toNat_natCast, not_true_eq_false, not_false_eq_true, ne_eq, eq_self] at h1
    have b0 : (0 : Int) ≤ (i : Int) ∧ (i : Int) < (l.length : Int) := ⟨by omega, by omega⟩
    have hi : i < l.length := by omega
    rw [Int.toNat_natCast]
    have hs4 := hr _ (List.mem_of_getElem? (gt_lt (k := .str) hi))
    generalize gt Kd.str l i = s at hs4 ⊢
    have next : ∃ (x' : Nat), (x' ≤ l.length ∧ l.length - x' < l.length - i) ∧ ss = ss ∧ l = l ∧ 0 = 0 ∧ IntKind.i64.wrap ((i : Int) + (1 : Int)) = (x' : Int) ∧ True := ⟨i + 1, ⟨by omega, by omega⟩, rfl, rfl, rfl, by rw [w64 (by omega)]; omega, trivial⟩
    refine ⟨b0, fun _ => next, fun h3 => ⟨⟨by omega, by omega, by omega, Nat.le_trans hs4 (by omega)⟩, fun r1 hr1 => ?_⟩⟩
    simp only [strBytes_size, ByteArray.size_append, List.length_append, List.length_cons, List.length_nil, Nat.zero_add, Bool.and_eq_true, Bool.or_eq_true, Bool.and_eq_false_iff, Bool.or_eq_false_iff, decide_eq_true_eq, decide_eq_false_iff_not, Bool.not_eq_true', Bool.not_eq_eq_eq_not, Bool.not_true, Bool.not_false, true_and, and_true, Int.toNat_natCast, not_true_eq_false, not_false_eq_true, ne_eq, eq_self] at h3
    have hpz : StOk pz := p0_ok (Or.inl rfl)
    have hr1 := hr1.trans (feedR_ok (p := pz) hpz hs4)
    subst hr1
    refine ⟨fun e => by simp at e, fun _ => ⟨(i, 0, (feedV pz s).1, (feedV pz s).2.map toldV, s), ⟨Nat.zero_le _, rfl, rfl⟩, rfl, rfl, rfl, rfl, rfl, rfl, rfl, rfl, rfl, rfl, rfl, rfl, rfl, ?_⟩⟩
    rintro ⟨i', k, rest⟩ ⟨c1, c2, c3⟩
    dsimp only at c1 c2 c3
    subst c2 c3
    dsimp only at c1 ⊢
    refine ⟨fun d1 => ?_, fun d1 => next⟩
    simp only [strBytes_size, ByteArray.size_append, List.length_append, List.length_cons, List.length_nil, Nat.zero_add, Bool.and_eq_true, Bool.or_eq_true, Bool.and_eq_false_iff, Bool.or_eq_false_iff, decide_eq_true_eq, decide_eq_false_iff_not, Bool.not_eq_true', Bool.not_eq_eq_eq_not, Bool.not_true, Bool.not_false, true_and, and_true, Int.toNat_natCast, not_true_eq_false, not_false_eq_true, ne_eq, eq_self] at d1
    have hk : k ≤ s.size := by omega
    dsimp only [Option.getD]
    simp only [Int.toNat_natCast]
    have za : (s.extract 0 k).size ≤ 120 := by rw [ByteArray.size_extract]; omega
    have zb : (s.extract k s.size).size ≤ 120 := by rw [ByteArray.size_extract]; omega
    obtain ⟨a1, a2, a3⟩ := feedV_ok (s := s.extract 0 k) hpz
    obtain ⟨g1, g2, g3⟩ := feedV_ok (s := s.extract k s.size) a1
    obtain ⟨s1, s2, s3⟩ := feedV_ok (s := s) hpz
    have hsp := feedV_split pz s k
    have hpq : (feedV pz s).1 = (feedV (feedV pz (s.extract 0 k)).1 (s.extract k s.size)).1 := (Prod.ext_iff.1 hsp).1
    have heq : (feedV pz s).2 = (feedV pz (s.extract 0 k)).2 ++ (feedV (feedV pz (s.extract 0 k)).1 (s.extract k s.size)).2 := (Prod.ext_iff.1 hsp).2
    refine ⟨⟨by omega, by omega, by omega⟩, ⟨by omega, by omega, by omega, by omega⟩, fun ra hra => ?_⟩
    have hra := hra.trans (feedR_ok (p := pz) hpz (by omega))
    subst hra
    have zi : (feedV pz (s.extract 0 k)).1.inter.size ≤ 4000000000000000000 := Nat.le_trans a1.2.2.1.2.2.1 (by omega)
    have zt : (feedV pz (s.extract 0 k)).1.text.size ≤ 4000000000000000000 := Nat.le_trans a1.2.2.2.2.2.2.2.1 (by omega)
    have zp : (feedV pz (s.extract 0 k)).1.params.length ≤ 4000000000000000000 := Nat.le_trans a1.2.2.2.1 (by omega)
    refine ⟨⟨by omega, by omega, by omega⟩, ⟨zi, zt, zp, by omega⟩, fun rb hrb => ?_⟩
    have hrb := hrb.trans (feedR_ok (p := (feedV pz (s.extract 0 k)).1) a1 (by omega))
    subst hrb
    refine ⟨fun e => by simp at e, fun _ => ⟨fun e => by simp at e, fun _ => ⟨⟨zi, zt, zp⟩, fun r2 hr2 => ?_⟩⟩⟩
    have hr2 : r2 = true := hr2.trans (pb_true.2 a1)
    subst hr2
    refine ⟨fun e => by simp at e, fun _ => ⟨fun e => by simp at e, fun _ => ⟨Nat.le_trans s1.2.2.2.1 (by omega), fun r3 hr3 => ?_⟩⟩⟩
    have hr3 : r3 = true := hr3.trans (pb_true.2 hpq)
    subst hr3
    have la : (List.map toldV (feedV pz (s.extract 0 k)).2).length ≤ 240 := by rw [List.length_map]; omega
    have lb : (List.map toldV (feedV (feedV pz (s.extract 0 k)).1 (s.extract k s.size)).2).length ≤ 240 := by rw [List.length_map]; omega
    have ea := told_par a2
    have eb := told_par g2
    refine ⟨fun e => by simp at e, fun _ => ⟨⟨Nat.le_trans la (by omega), fun e he => Nat.le_trans (ea e he) (by omega)⟩, ⟨by dsimp only; omega, by dsimp only; omega⟩, ⟨by rw [List.length_append]; dsimp only; omega, fun e he => ?_⟩, fun r4 hr4 => ?_⟩⟩
    · rcases List.mem_append.1 he with he | he
      · exact Nat.le_trans (ea e he) (by omega)
      · exact Nat.le_trans (eb e he) (by omega)
    have hr4 : r4 = true := hr4.trans (pb_true.2 (by rw [← List.map_append]; exact congrArg (List.map toldV) heq.symm))
    subst hr4
    refine ⟨fun e => by simp at e, fun _ => ⟨(i', k + 1, (feedV pz s).1, (feedV pz s).2.map toldV, s), ⟨⟨by dsimp only; omega, rfl, rfl⟩, by dsimp only; omega⟩, ?_, ?_, ?_, ?_, ?_, ?_, ?_, ?_, ?_, ?_, ?_, ?_, by rw [w64 (by omega)]; rfl, trivial⟩⟩ <;> first | rfl | trivial
  · exact h.elim)
noncomputable def e_splits : List (FuncId × Con) := (8, splitsCon) :: e_wakes3
theorem e_splits_ok : ConsOk Tryd.prog (look e_splits) := cons_cons e_wakes3_ok splits_ok
end Go.Cx
end
section
namespace Go.Proofs.YtcdpapgkgiifjaaDoor
open Go Go.Sx Go.ChangeShapes Go.WideShapes Go.ChangeAt Go.RowKit
set_option maxRecDepth 100000
theorem Tryd.own : ownKnob Tryd.prog.godebug = none := by kernel_rfl
theorem Tryd.laidOut : laidOutB Tryd.prog = true := by kernel_rfl
def lds : List (String × DataW Unit) := [("unicode/utf8.acceptRanges", Rows.laid_unicode_utf8_acceptRanges), ("unicode/utf8.first", Rows.laid_unicode_utf8_first)]
theorem acc_eq : (Rows.laid_unicode_utf8_acceptRanges : DataW Unit) = Lib.acceptData := by kernel_rfl
theorem first_eq : (Rows.laid_unicode_utf8_first : DataW Unit) = Lib.firstData := by kernel_rfl
theorem u8x : U8Extra Tryd.prog Tryd.lays260_ren := ⟨by kernel_rfl, by kernel_rfl, by kernel_rfl, by kernel_rfl, by kernel_rfl, by kernel_rfl, by kernel_rfl⟩
theorem plain_lds : lds.all (fun x => x.2.handleName?.isNone) = true := by kernel_rfl
theorem tabs_of {W : World} (h : laidMetH Tryd.prog lds W) : ∀ g3 g4, Tryd.prog.globalNamed "unicode/utf8.first" = some g3 → Tryd.prog.globalNamed "unicode/utf8.acceptRanges" = some g4 → Lib.Utf8Tabs g3 g4 W := by
  intro g3 g4 h3 h4
  obtain ⟨hm, _⟩ := laidMetH_iff.1 h
  have e : (lds.filter fun x => x.2.handleName?.isNone) = lds := by kernel_rfl
  rw [e] at hm
  have r4 := Lib.laidMet.reads hm (n := "unicode/utf8.acceptRanges") (d := Rows.laid_unicode_utf8_acceptRanges) (.head _)
  have r3 := Lib.laidMet.reads hm (n := "unicode/utf8.first") (d := Rows.laid_unicode_utf8_first) (.tail _ (.head _))
  rw [acc_eq] at r4
  rw [first_eq] at r3
  obtain rfl := Option.some.inj (u8x.n3.symm.trans h3)
  obtain rfl := Option.some.inj (u8x.n4.symm.trans h4)
  exact utf8Tabs_of_reads Tryd.lays260 u8x r3 r4
/-- a world that meets the condition -/
noncomputable def laidWorld (os : Os) : World :=
  let w0 := World.holding Tryd.prog os ⟨#[], #[], []⟩
  let put (h : Array Obj) (g : Nat) (cs : Array Value) : Array Obj := h.modify g fun
    | .cells _ t frozen => .cells cs t frozen
    | o => o
  let h1 := put w0.heap 0 (Lib.firstTab.map fun z => Value.int .u8 z).toArray
  let h2 := put h1 1 ((List.range 16).flatMap fun i => [Value.int .u8 (Lib.accLo i), Value.int .u8 (Lib.accHi i)]).toArray
  { w0 with heap := h2 }
theorem laidWorld_met (os : Os) (args : Array Value) : laidMetH Tryd.prog lds ((laidWorld os).forCall (fun _ _ => 0) ⟨#[], args, []⟩).memory :=
  laidMetH_of_parts (LaidIn.of_run [0, 1] 8 (by kernel_rfl) (by kernel_rfl) (by kernel_rfl) (by kernel_rfl)).met (by kernel_rfl)
end Go.Proofs.YtcdpapgkgiifjaaDoor
end
section
namespace Go.Proofs.YtcdpapgkgiifjaaDoor
open Go Go.Sx Go.ChangeShapes Go.WideShapes Go.ChangeAt Go.RowKit
set_option maxRecDepth 100000
theorem strs_weights {H : Type} {P : Program} {e : TypeId} : ∀ (ss : List ByteArray) (s : ByteArray), s ∈ ss → s.size ∈ DataW.weightsAll P e (strs (H := H) ss)
  | s0 :: ss, s, h => by
    show s.size ∈ DataW.weightsAll P e (.lit (.string s0.data.toList) :: strs ss)
    simp only [DataW.weightsAll, DataW.weights, List.mem_append, List.mem_singleton]
    rcases List.mem_cons.1 h with rfl | h
    · left; simp
    · right; exact strs_weights ss s h
/-- a slice of strings, opened -/
theorem open_strs16 {H : Type} {enc : TypeId × Value → H} {P : Program} {W : World} {t e : TypeId} {fuel : Nat} {cs : List Value} {x : DataW H × List MemPlace} (ht : P.underlying t = some (.slice e)) (he : P.underlying e = some .string) (hc : P.cellsOf e = 1) (hb : P.bytesOf e = 16)
    (h : DataW.trod enc P W 0 (fun _ => true) true fuel t cs = some x) (hz : ∀ n ∈ x.1.weights P t, n ≤ reachBytes) :
    ∃ (l : List ByteArray) (v : Value), cs = [v] ∧ Rep (fun _ => none) (heapPH W) [] (.lt .str l) v ∧ l.length * 16 ≤ reachBytes ∧ ∀ s ∈ l, s.size ≤ reachBytes := by
  rcases open_strings ht he hc h with ⟨hcs, hx⟩ | ⟨a, len, cap, ss, hcs, _, hl, hm, hlen, hx, hcell, hsz⟩
  · exact ⟨[], _, hcs, .lt .str [] none 0 (fun _ => []) (Nat.le_refl _) trivial (fun _ => rfl) (fun i x h => by simp at h) (fun i x j c h => by simp at h), by simp, fun s h => by simp at h⟩
  · have hlc : len ≤ ss.length := by rw [hlen]; simp; exact hl
    refine ⟨ss.take len, _, hcs, strs_rep hl hlc hcell, ?_, ?_⟩
    · subst hx
      have h1 : ((strs (H := H) (ss.take len)).length + (strs (H := H) (ss.drop len)).length) * P.bytesOf e ≤ reachBytes := hz _ (by simp [DataW.weights, ht])
      rw [hb] at h1
      have : (strs (H := H) (ss.take len)).length = (ss.take len).length := by simp [strs]
      rw [this] at h1
      exact Nat.le_trans (Nat.mul_le_mul_right 16 (Nat.le_add_right _ _)) h1
    · intro s hs
      subst hx
      refine hz _ ?_
      simp only [DataW.weights, ht]
      exact List.mem_cons_of_mem _ (List.mem_append_left _ (strs_weights _ _ hs))
/-- a struct of one field, opened -/
theorem open_struct1 {H : Type} {enc : TypeId × Value → H} {P : Program} {W : World} {t : TypeId} {f0 : Field} {v : Value} {d : DataW H} {p : List MemPlace} {base : Nat} (ht : P.underlying t = some (.struct #[f0])) (hc : P.cellsOf t = 1) (h0 : f0.offset = 0) (hc0 : P.cellsOf f0.type = 1)
    (hv : Value.okWide P W .any base t v) (h : DataW.Trod enc P W 0 (fun _ => true) true t v d p) :
    ∃ u y n, v = .agg #[u] ∧ d = .agg [y.1] ∧ DataW.trod enc P W 0 (fun _ => true) true n f0.type [u] = some y := by
  obtain ⟨cs, rfl, hcs⟩ := okWide_struct ht hv
  obtain ⟨fuel, hf⟩ := h
  have e : (Value.agg cs).cells = cs := rfl
  rw [e] at hf
  rw [hc] at hcs
  obtain ⟨u, hu⟩ : ∃ u, cs = #[u] := by
    match cs, hcs with
    | ⟨[u]⟩, _ => exact ⟨u, rfl⟩
  subst hu
  obtain ⟨y0, n, hx, _, hy⟩ := trod_struct1 ht hf
  rw [h0, hc0] at hy
  cases hx
  exact ⟨u, y0, n, rfl, rfl, hy⟩
theorem utfAll_lifted (os : Os) (started : os.Started) (H : Type) (enc : TypeId × Value → H) :
    ReturnsInHanded {} Tryd.checked os 3 .any (fun w args => (Rows.utfAllSpec.pre enc Tryd.prog Tryd.f3 [] false w args ∧ laidMetH Tryd.prog lds w) ∧ sizedMet enc Tryd.prog Tryd.f3 (OpenSpec.ofChange Rows.utfAllSpec) false w args)
      (Rows.utfAllSpec.post enc Tryd.prog Tryd.f3 false true false false) := by
  refine returnsInHanded_of_change_and (C := Tryd.checked) (X := fun w _ => laidMetH Tryd.prog lds w) (fun _ _ _ hh h => h.of_heap hh) Tryd.own started (by kernel_rfl) Tryd.func3
    (ChangeSpec.witness_at (enc := enc) (C := Tryd.checked) (os := os) (X := fun w _ => laidMetH Tryd.prog lds w) false (laidWorld os) #[.agg #[.slice none 0 0]] 8 rfl (by kernel_rfl) (by kernel_rfl) (by kernel_rfl) (by kernel_rfl) (by kernel_rfl) (laidWorld_met os _)) ?_
  intro W base args ds gs before hval0 hW _ hsz0 hL _
  have hsz : (DataW.weightsEach Tryd.prog (Tryd.f3.params.toList ++ Rows.utfAllSpec.plain.varTypes Tryd.prog) (ds ++ gs)).all (· ≤ reachBytes) = true := hsz0
  have hval : ∀ (j : Nat) t v, Tryd.f3.params[j]? = some t → args[j]? = some v → Value.okWide Tryd.prog W .any base t v := hval0
  have hW' := hW
  obtain ⟨p, q, hA0, hV, rfl, hfz, hnd⟩ := hW
  have hA : DataW.TrodAll enc Tryd.prog W 0 (fun _ => true) true Tryd.f3.params.toList args.toList ds p := hA0
  rw [Tryd.params3] at hA hval hsz
  obtain ⟨v0, vs0, d0, ds0, p0, q0, hargs, rfl, rfl, h0, r0⟩ := trodAll_cons hA
  obtain ⟨rfl, rfl, rfl⟩ := trodAll_nil r0
  obtain rfl : args = #[v0] := by cases args; simp_all
  obtain ⟨rfl, rfl⟩ := trodVars_none hV
  have k0 := h0
  have lt0 : ∀ x ∈ p0, x.block < W.heap.size := by obtain ⟨m, hm⟩ := k0; exact DataW.trod_lt m _ _ _ hm
  have hw0 : ∀ n ∈ d0.weights Tryd.prog 24, n ≤ reachBytes := fun n hn => of_decide_eq_true (List.all_eq_true.1 hsz n (DataW.weights_mem_each (j := 0) rfl rfl n hn))
  obtain ⟨u, y, n, rfl, rfl, hy⟩ := open_struct1 Tryd.underlying24 (by kernel_rfl) rfl (by kernel_rfl) (hval 0 24 v0 rfl rfl) h0
  obtain ⟨l, v, hv, hrep, hl3, hl2⟩ := open_strs16 Tryd.underlying22 Tryd.underlying9 (by kernel_rfl) (by kernel_rfl) hy (fun n hn => hw0 n (by
    simp only [DataW.weights, Tryd.underlying24]
    simp only [DataW.weightsEach, List.map]
    exact List.mem_append_left _ hn))
  cases hv
  clear hA0 hval0 hsz0 hsz
  have hR : reachBytes = 140737488351232 := rfl
  have hl1 : l.length ≤ reachBytes := by omega
  refine (law_calls Cx.utfAll_ok W (tabs_of hL) (ags := [.agg [.lt .str l]]) (.cons (.agg _ _ (.cons hrep .nil)) .nil) (fun K hK => ⟨⟨hl1, hl2⟩, hK⟩)).mono fun e W' ⟨he, bel⟩ => ?_
  subst he
  exact ⟨_, rfl, _, _, _, [], _, [], hW', trodAll_mk1 (shut_bool Tryd.underlying4 _), trodAll_mk1 (Below.trod Tryd.laidOut (by kernel_rfl) (of_decide_eq_true (by kernel_rfl)) k0 bel lt0), rfl, bel.frame _, fun h => by cases h⟩
theorem utfAll_holds : Rows.UtfAllSaid :=
  OpenClaim.holds_of_wide 3 Tryd.f3 rfl rfl rfl rfl rfl rfl rfl ⟨rfl, rfl, rfl, rfl, rfl⟩ rfl rfl rfl rfl rfl (by kernel_rfl) Tryd.func3 (by kernel_rfl)
    (of_decide_eq_true (by kernel_rfl)) (by unfold Func.isWrapper; first | (rw [if_pos (by decide +kernel)]; kernel_rfl) | (rw [if_neg (by decide +kernel)]; exact ⟨rfl, rfl⟩))
    (fun os started H enc _ => utfAll_lifted os started H enc)
theorem utfSplits_lifted (os : Os) (started : os.Started) (H : Type) (enc : TypeId × Value → H) :
    ReturnsInHanded {} Tryd.checked os 4 .any (fun w args => (Rows.utfSplitsSpec.pre enc Tryd.prog Tryd.f4 [] false w args ∧ laidMetH Tryd.prog lds w) ∧ sizedMet enc Tryd.prog Tryd.f4 (OpenSpec.ofChange Rows.utfSplitsSpec) false w args)
      (Rows.utfSplitsSpec.post enc Tryd.prog Tryd.f4 false true false false) := by
  refine returnsInHanded_of_change_and (C := Tryd.checked) (X := fun w _ => laidMetH Tryd.prog lds w) (fun _ _ _ hh h => h.of_heap hh) Tryd.own started (by kernel_rfl) Tryd.func4
    (ChangeSpec.witness_at (enc := enc) (C := Tryd.checked) (os := os) (X := fun w _ => laidMetH Tryd.prog lds w) false (laidWorld os) #[.agg #[.slice none 0 0]] 8 rfl (by kernel_rfl) (by kernel_rfl) (by kernel_rfl) (by kernel_rfl) (by kernel_rfl) (laidWorld_met os _)) ?_
  intro W base args ds gs before hval0 hW _ hsz0 hL _
  have hsz : (DataW.weightsEach Tryd.prog (Tryd.f4.params.toList ++ Rows.utfSplitsSpec.plain.varTypes Tryd.prog) (ds ++ gs)).all (· ≤ reachBytes) = true := hsz0
  have hval : ∀ (j : Nat) t v, Tryd.f4.params[j]? = some t → args[j]? = some v → Value.okWide Tryd.prog W .any base t v := hval0
  have hW' := hW
  obtain ⟨p, q, hA0, hV, rfl, hfz, hnd⟩ := hW
  have hA : DataW.TrodAll enc Tryd.prog W 0 (fun _ => true) true Tryd.f4.params.toList args.toList ds p := hA0
  rw [Tryd.params4] at hA hval hsz
  obtain ⟨v0, vs0, d0, ds0, p0, q0, hargs, rfl, rfl, h0, r0⟩ := trodAll_cons hA
  obtain ⟨rfl, rfl, rfl⟩ := trodAll_nil r0
  obtain rfl : args = #[v0] := by cases args; simp_all
  obtain ⟨rfl, rfl⟩ := trodVars_none hV
  have k0 := h0
  have lt0 : ∀ x ∈ p0, x.block < W.heap.size := by obtain ⟨m, hm⟩ := k0; exact DataW.trod_lt m _ _ _ hm
  have hw0 : ∀ n ∈ d0.weights Tryd.prog 24, n ≤ reachBytes := fun n hn => of_decide_eq_true (List.all_eq_true.1 hsz n (DataW.weights_mem_each (j := 0) rfl rfl n hn))
  obtain ⟨u, y, n, rfl, rfl, hy⟩ := open_struct1 Tryd.underlying24 (by kernel_rfl) rfl (by kernel_rfl) (hval 0 24 v0 rfl rfl) h0
  obtain ⟨l, v, hv, hrep, hl3, hl2⟩ := open_strs16 Tryd.underlying22 Tryd.underlying9 (by kernel_rfl) (by kernel_rfl) hy (fun n hn => hw0 n (by
    simp only [DataW.weights, Tryd.underlying24]
    simp only [DataW.weightsEach, List.map]
    exact List.mem_append_left _ hn))
  cases hv
  clear hA0 hval0 hsz0 hsz
  have hR : reachBytes = 140737488351232 := rfl
  have hl1 : l.length ≤ reachBytes := by omega
  refine (law_calls Cx.usplits_ok W (tabs_of hL) (ags := [.agg [.lt .str l]]) (.cons (.agg _ _ (.cons hrep .nil)) .nil) (fun K hK => ⟨⟨hl1, hl2⟩, hK⟩)).mono fun e W' ⟨he, bel⟩ => ?_
  subst he
  exact ⟨_, rfl, _, _, _, [], _, [], hW', trodAll_mk1 (shut_bool Tryd.underlying4 _), trodAll_mk1 (Below.trod Tryd.laidOut (by kernel_rfl) (of_decide_eq_true (by kernel_rfl)) k0 bel lt0), rfl, bel.frame _, fun h => by cases h⟩
theorem utfSplits_holds : Rows.UtfSplitsSaid :=
  OpenClaim.holds_of_wide 4 Tryd.f4 rfl rfl rfl rfl rfl rfl rfl ⟨rfl, rfl, rfl, rfl, rfl⟩ rfl rfl rfl rfl rfl (by kernel_rfl) Tryd.func4 (by kernel_rfl)
    (of_decide_eq_true (by kernel_rfl)) (by unfold Func.isWrapper; first | (rw [if_pos (by decide +kernel)]; kernel_rfl) | (rw [if_neg (by decide +kernel)]; exact ⟨rfl, rfl⟩))
    (fun os started H enc _ => utfSplits_lifted os started H enc)
theorem utfBytes_lifted (os : Os) (started : os.Started) (H : Type) (enc : TypeId × Value → H) :
    ReturnsInHanded {} Tryd.checked os 5 .any (fun w args => (Rows.utfBytesSpec.pre enc Tryd.prog Tryd.f5 [] false w args ∧ laidMetH Tryd.prog lds w) ∧ sizedMet enc Tryd.prog Tryd.f5 (OpenSpec.ofChange Rows.utfBytesSpec) false w args)
      (Rows.utfBytesSpec.post enc Tryd.prog Tryd.f5 false true false false) := by
  refine returnsInHanded_of_change_and (C := Tryd.checked) (X := fun w _ => laidMetH Tryd.prog lds w) (fun _ _ _ hh h => h.of_heap hh) Tryd.own started (by kernel_rfl) Tryd.func5
    (ChangeSpec.witness_at (enc := enc) (C := Tryd.checked) (os := os) (X := fun w _ => laidMetH Tryd.prog lds w) false (laidWorld os) #[.agg #[.slice none 0 0]] 8 rfl (by kernel_rfl) (by kernel_rfl) (by kernel_rfl) (by kernel_rfl) (by kernel_rfl) (laidWorld_met os _)) ?_
  intro W base args ds gs before hval0 hW _ hsz0 hL _
  have hsz : (DataW.weightsEach Tryd.prog (Tryd.f5.params.toList ++ Rows.utfBytesSpec.plain.varTypes Tryd.prog) (ds ++ gs)).all (· ≤ reachBytes) = true := hsz0
  have hval : ∀ (j : Nat) t v, Tryd.f5.params[j]? = some t → args[j]? = some v → Value.okWide Tryd.prog W .any base t v := hval0
  have hW' := hW
  obtain ⟨p, q, hA0, hV, rfl, hfz, hnd⟩ := hW
  have hA : DataW.TrodAll enc Tryd.prog W 0 (fun _ => true) true Tryd.f5.params.toList args.toList ds p := hA0
  rw [Tryd.params5] at hA hval hsz
  obtain ⟨v0, vs0, d0, ds0, p0, q0, hargs, rfl, rfl, h0, r0⟩ := trodAll_cons hA
  obtain ⟨rfl, rfl, rfl⟩ := trodAll_nil r0
  obtain rfl : args = #[v0] := by cases args; simp_all
  obtain ⟨rfl, rfl⟩ := trodVars_none hV
  have k0 := h0
  have lt0 : ∀ x ∈ p0, x.block < W.heap.size := by obtain ⟨m, hm⟩ := k0; exact DataW.trod_lt m _ _ _ hm
  have hw0 : ∀ n ∈ d0.weights Tryd.prog 24, n ≤ reachBytes := fun n hn => of_decide_eq_true (List.all_eq_true.1 hsz n (DataW.weights_mem_each (j := 0) rfl rfl n hn))
  obtain ⟨u, y, n, rfl, rfl, hy⟩ := open_struct1 Tryd.underlying24 (by kernel_rfl) rfl (by kernel_rfl) (hval 0 24 v0 rfl rfl) h0
  obtain ⟨l, v, hv, hrep, hl3, hl2⟩ := open_strs16 Tryd.underlying22 Tryd.underlying9 (by kernel_rfl) (by kernel_rfl) hy (fun n hn => hw0 n (by
    simp only [DataW.weights, Tryd.underlying24]
    simp only [DataW.weightsEach, List.map]
    exact List.mem_append_left _ hn))
  cases hv
  clear hA0 hval0 hsz0 hsz
  have hR : reachBytes = 140737488351232 := rfl
  have hl1 : l.length ≤ reachBytes := by omega
  refine (law_calls Cx.ubytes_ok W (tabs_of hL) (ags := [.agg [.lt .str l]]) (.cons (.agg _ _ (.cons hrep .nil)) .nil) (fun K hK => ⟨⟨by omega, hl2⟩, hK⟩)).mono fun e W' ⟨he, bel⟩ => ?_
  subst he
  exact ⟨_, rfl, _, _, _, [], _, [], hW', trodAll_mk1 (shut_bool Tryd.underlying4 _), trodAll_mk1 (Below.trod Tryd.laidOut (by kernel_rfl) (of_decide_eq_true (by kernel_rfl)) k0 bel lt0), rfl, bel.frame _, fun h => by cases h⟩
theorem utfBytes_holds : Rows.UtfBytesSaid :=
  OpenClaim.holds_of_wide 5 Tryd.f5 rfl rfl rfl rfl rfl rfl rfl ⟨rfl, rfl, rfl, rfl, rfl⟩ rfl rfl rfl rfl rfl (by kernel_rfl) Tryd.func5 (by kernel_rfl)
    (of_decide_eq_true (by kernel_rfl)) (by unfold Func.isWrapper; first | (rw [if_pos (by decide +kernel)]; kernel_rfl) | (rw [if_neg (by decide +kernel)]; exact ⟨rfl, rfl⟩))
    (fun os started H enc _ => utfBytes_lifted os started H enc)
end Go.Proofs.YtcdpapgkgiifjaaDoor
end
section
namespace Go.Proofs.YtcdpapgkgiifjaaDoor
open Go Go.Sx Go.ChangeShapes Go.WideShapes Go.ChangeAt Go.RowKit
set_option maxRecDepth 100000
theorem weightsAll_mem {H : Type} {P : Program} {e : TypeId} {d : DataW H} {n : Nat} : ∀ {ds : List (DataW H)}, d ∈ ds → n ∈ d.weights P e → n ∈ DataW.weightsAll P e ds
  | d0 :: ds, h, hn => by
    simp only [DataW.weightsAll, List.mem_append]
    rcases List.mem_cons.1 h with rfl | h
    · exact .inl hn
    · exact .inr (weightsAll_mem h hn)
/-- a slice of parses, opened -/
theorem open_parses {H : Type} {enc : TypeId × Value → H} {P : Program} {W : World} {t e q : TypeId} {f0 f1 f2 f3 f4 : Field} {fuel : Nat} {cs : List Value} {x : DataW H × List MemPlace} (ht : P.underlying t = some (.slice e)) (he : P.underlying e = some (.struct #[f0, f1, f2, f3, f4]))
    (hone : Go.Deep.oneCellFields P #[f0, f1, f2, f3, f4] = true) (ce : P.cellsOf e = 5) (t0 : P.underlying f0.type = some (.int .i64)) (t1 : P.underlying f1.type = some .string) (t2 : P.underlying f2.type = some (.slice q)) (tq : P.underlying q = some (.int .i64)) (cq : P.cellsOf q = 1) (bq : P.bytesOf q = 8)
    (t3 : P.underlying f3.type = some .string) (t4 : P.underlying f4.type = some .string) (be : P.bytesOf e = 80)
    (h : DataW.trod enc P W 0 (fun _ => true) true fuel t cs = some x) (hz : ∀ n ∈ x.1.weights P t, n ≤ reachBytes) :
    ∃ (l : List Parse) (v : Value), cs = [v] ∧ Rep (fun _ => none) (heapPH W) [] (.lt .parse l) v ∧ l.length * 80 ≤ reachBytes ∧ ∀ p ∈ l, p.part.size ≤ reachBytes ∧ p.inter.size ≤ reachBytes ∧ p.text.size ≤ reachBytes ∧ p.params.length ≤ reachBytes := by
  have hone := Go.Deep.hone_of hone
  rcases Go.Deep.open_slice ht h with ⟨hcs, hx⟩ | ⟨a, len, cap, m, n, D, Pl, hcs, _, hl, hm, hmm, hx, hel⟩
  · exact ⟨[], _, hcs, .lt .parse [] none 0 (fun _ => []) (Nat.le_refl _) trivial (fun _ => rfl) (fun i x h => by simp at h) (fun i x j c h => by simp at h), by simp, fun s h => by simp at h⟩
  · subst hx
    rw [if_pos rfl] at hmm
    subst hmm
    have hw : ∀ i, i < len → ∀ k ∈ (D i).weights P e, k ≤ reachBytes := by
      intro i hi k hk
      refine hz k ?_
      simp only [DataW.weights, ht]
      exact List.mem_cons_of_mem _ (List.mem_append_left _ (weightsAll_mem (List.mem_map.2 ⟨i, List.mem_range.2 hi, rfl⟩) hk))
    haveI : Inhabited Parse := ⟨dfl .parse⟩
    have each : ∀ i, i < len → ∃ p : Parse, (∃ cs', W.cells? 0 (a.add (i * ksz .parse)) (ksz .parse) = some cs' ∧ Reps (fun _ => none) (heapPH W) [] (Go.Sx.enc .parse p) cs') ∧ p.part.size ≤ reachBytes ∧ p.inter.size ≤ reachBytes ∧ p.text.size ≤ reachBytes ∧ p.params.length ≤ reachBytes := by
      intro i hi
      obtain ⟨cs', h1, h2⟩ := hel i (by omega)
      rw [ce] at h1
      obtain ⟨_, hlen, _⟩ := World.cells?_some h1
      obtain ⟨xs, k, _, hxy, _, hxl, hf⟩ := DataW.trod_struct he h2
      have hw := hw i hi
      match xs, hxl, cs', hlen with
      | [y0, y1, y2, y3, y4], _, [v0, v1, v2, v3, v4], _ =>
        have g0 := hf 0 f0 rfl
        have g1 := hf 1 f1 rfl
        have g2 := hf 2 f2 rfl
        have g3 := hf 3 f3 rfl
        have g4 := hf 4 f4 rfl
        rw [(hone 0 f0 rfl).1, (hone 0 f0 rfl).2] at g0
        rw [(hone 1 f1 rfl).1, (hone 1 f1 rfl).2] at g1
        rw [(hone 2 f2 rfl).1, (hone 2 f2 rfl).2] at g2
        rw [(hone 3 f3 rfl).1, (hone 3 f3 rfl).2] at g3
        rw [(hone 4 f4 rfl).1, (hone 4 f4 rfl).2] at g4
        have g0 : DataW.trod enc P W 0 (fun _ => true) true k f0.type [v0] = some y0 := g0
        have g1 : DataW.trod enc P W 0 (fun _ => true) true k f1.type [v1] = some y1 := g1
        have g2 : DataW.trod enc P W 0 (fun _ => true) true k f2.type [v2] = some y2 := g2
        have g3 : DataW.trod enc P W 0 (fun _ => true) true k f3.type [v3] = some y3 := g3
        have g4 : DataW.trod enc P W 0 (fun _ => true) true k f4.type [v4] = some y4 := g4
        obtain ⟨z, e0, _, _⟩ := DataW.trod_int t0 g0
        obtain ⟨s1, e1, d1, _⟩ := DataW.trod_string t1 g1
        obtain ⟨s3, e3, d3, _⟩ := DataW.trod_string t3 g3
        obtain ⟨s4, e4, d4, _⟩ := DataW.trod_string t4 g4
        have hD : D i = .agg [y0.1, y1.1, y2.1, y3.1, y4.1] := by have := congrArg Prod.fst hxy; exact this
        rw [hD] at hw
        have hw : ∀ n ∈ y0.1.weights P f0.type ++ (y1.1.weights P f1.type ++ (y2.1.weights P f2.type ++ (y3.1.weights P f3.type ++ (y4.1.weights P f4.type ++ [])))), n ≤ reachBytes := by
          intro n hn
          refine hw n ?_
          simp only [DataW.weights, he]
          exact hn
        have w1 : s1.size ≤ reachBytes := hw _ (by
          apply List.mem_append_right; apply List.mem_append_left
          rw [d1]; simp [DataW.weights])
        have w3 : s3.size ≤ reachBytes := hw _ (by
          apply List.mem_append_right; apply List.mem_append_right; apply List.mem_append_right; apply List.mem_append_left
          rw [d3]; simp [DataW.weights])
        have w4 : s4.size ≤ reachBytes := hw _ (by
          apply List.mem_append_right; apply List.mem_append_right; apply List.mem_append_right; apply List.mem_append_right; apply List.mem_append_left
          rw [d4]; simp [DataW.weights])
        have hp : ∃ l : List Int, Rep (fun _ => none) (heapPH W) [] (.sl (.int .i64) l) v2 ∧ l.length ≤ reachBytes := by
          rcases open_ints t2 tq cq g2 with ⟨c, _⟩ | ⟨a', len', cap', zs, c, _, l1, l2, l3, dd, hc, _⟩
          · cases c
            exact ⟨[], Rep.nil_sl _, by simp⟩
          · cases c
            rw [if_pos rfl] at l3
            refine ⟨zs.take len', rep_ints l1 l2 (by omega) hc, ?_⟩
            have := hw ((lits (H := H) .i64 (zs.take len')).length * 8 + (lits (H := H) .i64 (zs.drop len')).length * 8) (by
              apply List.mem_append_right; apply List.mem_append_right; apply List.mem_append_left
              rw [dd]; simp only [DataW.weights, t2, bq, Nat.add_mul]
              exact List.mem_cons_self ..)
            simp only [lits, List.length_map] at this
            omega
        obtain ⟨l, hl1, hl2⟩ := hp
        cases e0; cases e1; cases e3; cases e4
        exact ⟨⟨z, s1, l, s3, s4⟩, ⟨_, h1, .cons (.val _) (.cons (.val _) (.cons hl1 (.cons (.val _) (.cons (.val _) .nil))))⟩, w1, w3, w4, hl2⟩
    obtain ⟨X, hX⟩ := Go.Deep.choose_lt each
    refine ⟨(List.range len).map X, _, hcs, rep_slice (k := .parse) X hl fun i hi => (hX i hi).1, ?_, ?_⟩
    · have := hz (((List.range len).map D).length * 80 + ((List.range (m - len)).map fun j => D (len + j)).length * 80) (by
        simp only [DataW.weights, ht, be, Nat.add_mul]
        exact List.mem_cons_self ..)
      simp only [List.length_map, List.length_range] at this ⊢
      omega
    · intro p hp
      obtain ⟨i, hi, rfl⟩ := List.mem_map.1 hp
      exact (hX i (List.mem_range.1 hi)).2
/-- a struct of two fields of one cell each, the other a struct of one field: opened -/
theorem open_struct2 {H : Type} {enc : TypeId × Value → H} {P : Program} {W : World} {t : TypeId} {f0 f1 g0 : Field} {v : Value} {d : DataW H} {p : List MemPlace} {base : Nat} (ht : P.underlying t = some (.struct #[f0, f1])) (hc : P.cellsOf t = 2) (h0 : f0.offset = 0) (hc0 : P.cellsOf f0.type = 1) (h1 : f1.offset = 1) (hc1 : P.cellsOf f1.type = 1)
    (ht1 : P.underlying f1.type = some (.struct #[g0])) (hg0 : g0.offset = 0) (hcg : P.cellsOf g0.type = 1)
    (hv : Value.okWide P W .any base t v) (h : DataW.Trod enc P W 0 (fun _ => true) true t v d p) :
    ∃ u0 u1 y0 y1 n m, v = .agg #[u0, u1] ∧ d = .agg [y0.1, .agg [y1.1]] ∧ DataW.trod enc P W 0 (fun _ => true) true n f0.type [u0] = some y0 ∧ DataW.trod enc P W 0 (fun _ => true) true m g0.type [u1] = some y1 := by
  obtain ⟨cs, rfl, hcs⟩ := okWide_struct ht hv
  obtain ⟨fuel, hf⟩ := h
  have e : (Value.agg cs).cells = cs := rfl
  rw [e] at hf
  rw [hc] at hcs
  obtain ⟨u0, u1, hu⟩ : ∃ u0 u1, cs = #[u0, u1] := by
    match cs, hcs with
    | ⟨[u0, u1]⟩, _ => exact ⟨u0, u1, rfl⟩
  subst hu
  obtain ⟨xs, n, _, hx, _, hxl, hff⟩ := DataW.trod_struct ht hf
  match xs, hxl with
  | [y0, y1], _ =>
    have g0' := hff 0 f0 rfl
    have g1' := hff 1 f1 rfl
    rw [h0, hc0] at g0'
    rw [h1, hc1] at g1'
    have g1' : DataW.trod enc P W 0 (fun _ => true) true n f1.type [u1] = some y1 := g1'
    obtain ⟨xs2, m, _, hx2, _, hxl2, hff2⟩ := DataW.trod_struct ht1 g1'
    match xs2, hxl2 with
    | [y2], _ =>
      have g2' := hff2 0 g0 rfl
      rw [hg0, hcg] at g2'
      cases hx
      cases hx2
      exact ⟨u0, u1, y0, y2, n, m, rfl, rfl, g0', g2'⟩
theorem vtEach_lifted (os : Os) (started : os.Started) (H : Type) (enc : TypeId × Value → H) :
    ReturnsInHanded {} Tryd.checked os 6 .any (fun w args => (Rows.vtEachSpec.pre enc Tryd.prog Tryd.f6 [] false w args ∧ laidMetH Tryd.prog lds w) ∧ sizedMet enc Tryd.prog Tryd.f6 (OpenSpec.ofChange Rows.vtEachSpec) false w args)
      (Rows.vtEachSpec.post enc Tryd.prog Tryd.f6 false true false false) := by
  refine returnsInHanded_of_change_and (C := Tryd.checked) (X := fun w _ => laidMetH Tryd.prog lds w) (fun _ _ _ hh h => h.of_heap hh) Tryd.own started (by kernel_rfl) Tryd.func6
    (ChangeSpec.witness_at (enc := enc) (C := Tryd.checked) (os := os) (X := fun w _ => laidMetH Tryd.prog lds w) false (laidWorld os) #[.agg #[.slice none 0 0, .slice none 0 0]] 8 rfl (by kernel_rfl) (by kernel_rfl) (by kernel_rfl) (by kernel_rfl) (by kernel_rfl) (laidWorld_met os _)) ?_
  intro W base args ds gs before hval0 hW _ hsz0 hL _
  have hsz : (DataW.weightsEach Tryd.prog (Tryd.f6.params.toList ++ Rows.vtEachSpec.plain.varTypes Tryd.prog) (ds ++ gs)).all (· ≤ reachBytes) = true := hsz0
  have hval : ∀ (j : Nat) t v, Tryd.f6.params[j]? = some t → args[j]? = some v → Value.okWide Tryd.prog W .any base t v := hval0
  have hW' := hW
  obtain ⟨p, q, hA0, hV, rfl, hfz, hnd⟩ := hW
  have hA : DataW.TrodAll enc Tryd.prog W 0 (fun _ => true) true Tryd.f6.params.toList args.toList ds p := hA0
  rw [Tryd.params6] at hA hval hsz
  obtain ⟨v0, vs0, d0, ds0, p0, q0, hargs, rfl, rfl, h0, r0⟩ := trodAll_cons hA
  obtain ⟨rfl, rfl, rfl⟩ := trodAll_nil r0
  obtain rfl : args = #[v0] := by cases args; simp_all
  obtain ⟨rfl, rfl⟩ := trodVars_none hV
  have k0 := h0
  have lt0 : ∀ x ∈ p0, x.block < W.heap.size := by obtain ⟨m, hm⟩ := k0; exact DataW.trod_lt m _ _ _ hm
  have hw0 : ∀ n ∈ d0.weights Tryd.prog 44, n ≤ reachBytes := fun n hn => of_decide_eq_true (List.all_eq_true.1 hsz n (DataW.weights_mem_each (j := 0) rfl rfl n hn))
  obtain ⟨u0, u1, y0, y1, n, m, rfl, rfl, hy0, hy1⟩ := open_struct2 Tryd.underlying44 (by kernel_rfl) rfl (by kernel_rfl) rfl (by kernel_rfl) Tryd.underlying24 rfl (by kernel_rfl) (hval 0 44 v0 rfl rfl) h0
  obtain ⟨ss, v, hv, hrep0, hs3, hs2⟩ := open_parses Tryd.underlying42 Tryd.underlying47 (by kernel_rfl) (by kernel_rfl) Tryd.underlying3 Tryd.underlying9 Tryd.underlying26 Tryd.underlying3 (by kernel_rfl) (by kernel_rfl) Tryd.underlying9 Tryd.underlying9 (by kernel_rfl) hy0 (fun n hn => hw0 n (by
    simp only [DataW.weights, Tryd.underlying44]
    simp only [DataW.weightsEach, List.map]
    exact List.mem_append_left _ hn))
  cases hv
  obtain ⟨l, v, hv, hrep, hl3, hl2⟩ := open_strs16 Tryd.underlying22 Tryd.underlying9 (by kernel_rfl) (by kernel_rfl) hy1 (fun n hn => hw0 n (by
    simp only [DataW.weights, Tryd.underlying44, Tryd.underlying24]
    simp only [DataW.weightsEach, List.map]
    apply List.mem_append_right
    apply List.mem_append_left
    simp only [DataW.weights, Tryd.underlying24]
    simp only [DataW.weightsEach, List.map]
    exact List.mem_append_left _ hn))
  cases hv
  clear hA0 hval0 hsz0 hsz
  have hR : reachBytes = 140737488351232 := rfl
  have hl1 : l.length ≤ reachBytes := by omega
  refine (law_calls Cx.each_ok W (tabs_of hL) (ags := [.agg [.lt .parse ss, .lt .str l]]) (.cons (.agg _ _ (.cons hrep0 (.cons hrep .nil))) .nil) (fun K hK => ⟨⟨⟨hl1, hl2⟩, by omega, hs2⟩, hK⟩)).mono fun e W' ⟨he, bel⟩ => ?_
  subst he
  exact ⟨_, rfl, _, _, _, [], _, [], hW', trodAll_mk1 (shut_bool Tryd.underlying4 _), trodAll_mk1 (Below.trod Tryd.laidOut (by kernel_rfl) (of_decide_eq_true (by kernel_rfl)) k0 bel lt0), rfl, bel.frame _, fun h => by cases h⟩
theorem vtEach_holds : Rows.VtEachSaid :=
  OpenClaim.holds_of_wide 6 Tryd.f6 rfl rfl rfl rfl rfl rfl rfl ⟨rfl, rfl, rfl, rfl, rfl⟩ rfl rfl rfl rfl rfl (by kernel_rfl) Tryd.func6 (by kernel_rfl)
    (of_decide_eq_true (by kernel_rfl)) (by unfold Func.isWrapper; first | (rw [if_pos (by decide +kernel)]; kernel_rfl) | (rw [if_neg (by decide +kernel)]; exact ⟨rfl, rfl⟩))
    (fun os started H enc _ => vtEach_lifted os started H enc)
end Go.Proofs.YtcdpapgkgiifjaaDoor
end
section
namespace Go.Proofs.YtcdpapgkgiifjaaDoor
open Go Go.Sx Go.ChangeShapes Go.WideShapes Go.ChangeAt Go.RowKit
set_option maxRecDepth 100000
theorem vtSplits_lifted (os : Os) (started : os.Started) (H : Type) (enc : TypeId × Value → H) :
    ReturnsInHanded {} Tryd.checked os 8 .any (fun w args => (Rows.vtSplitsSpec.pre enc Tryd.prog Tryd.f8 [] false w args ∧ laidMetH Tryd.prog lds w) ∧ sizedMet enc Tryd.prog Tryd.f8 (OpenSpec.ofChange Rows.vtSplitsSpec) false w args)
      (Rows.vtSplitsSpec.post enc Tryd.prog Tryd.f8 false true false false) := by
  refine returnsInHanded_of_change_and (C := Tryd.checked) (X := fun w _ => laidMetH Tryd.prog lds w) (fun _ _ _ hh h => h.of_heap hh) Tryd.own started (by kernel_rfl) Tryd.func8
    (ChangeSpec.witness_at (enc := enc) (C := Tryd.checked) (os := os) (X := fun w _ => laidMetH Tryd.prog lds w) false (laidWorld os) #[.agg #[.slice none 0 0, .slice none 0 0]] 8 rfl (by kernel_rfl) (by kernel_rfl) (by kernel_rfl) (by kernel_rfl) (by kernel_rfl) (laidWorld_met os _)) ?_
  intro W base args ds gs before hval0 hW _ hsz0 hL _
  have hsz : (DataW.weightsEach Tryd.prog (Tryd.f8.params.toList ++ Rows.vtSplitsSpec.plain.varTypes Tryd.prog) (ds ++ gs)).all (· ≤ reachBytes) = true := hsz0
  have hval : ∀ (j : Nat) t v, Tryd.f8.params[j]? = some t → args[j]? = some v → Value.okWide Tryd.prog W .any base t v := hval0
  have hW' := hW
  obtain ⟨p, q, hA0, hV, rfl, hfz, hnd⟩ := hW
  have hA : DataW.TrodAll enc Tryd.prog W 0 (fun _ => true) true Tryd.f8.params.toList args.toList ds p := hA0
  rw [Tryd.params8] at hA hval hsz
  obtain ⟨v0, vs0, d0, ds0, p0, q0, hargs, rfl, rfl, h0, r0⟩ := trodAll_cons hA
  obtain ⟨rfl, rfl, rfl⟩ := trodAll_nil r0
  obtain rfl : args = #[v0] := by cases args; simp_all
  obtain ⟨rfl, rfl⟩ := trodVars_none hV
  have k0 := h0
  have lt0 : ∀ x ∈ p0, x.block < W.heap.size := by obtain ⟨m, hm⟩ := k0; exact DataW.trod_lt m _ _ _ hm
  have hw0 : ∀ n ∈ d0.weights Tryd.prog 44, n ≤ reachBytes := fun n hn => of_decide_eq_true (List.all_eq_true.1 hsz n (DataW.weights_mem_each (j := 0) rfl rfl n hn))
  obtain ⟨u0, u1, y0, y1, n, m, rfl, rfl, hy0, hy1⟩ := open_struct2 Tryd.underlying44 (by kernel_rfl) rfl (by kernel_rfl) rfl (by kernel_rfl) Tryd.underlying24 rfl (by kernel_rfl) (hval 0 44 v0 rfl rfl) h0
  obtain ⟨ss, v, hv, hrep0, hs3, hs2⟩ := open_parses Tryd.underlying42 Tryd.underlying47 (by kernel_rfl) (by kernel_rfl) Tryd.underlying3 Tryd.underlying9 Tryd.underlying26 Tryd.underlying3 (by kernel_rfl) (by kernel_rfl) Tryd.underlying9 Tryd.underlying9 (by kernel_rfl) hy0 (fun n hn => hw0 n (by
    simp only [DataW.weights, Tryd.underlying44]
    simp only [DataW.weightsEach, List.map]
    exact List.mem_append_left _ hn))
  cases hv
  obtain ⟨l, v, hv, hrep, hl3, hl2⟩ := open_strs16 Tryd.underlying22 Tryd.underlying9 (by kernel_rfl) (by kernel_rfl) hy1 (fun n hn => hw0 n (by
    simp only [DataW.weights, Tryd.underlying44, Tryd.underlying24]
    simp only [DataW.weightsEach, List.map]
    apply List.mem_append_right
    apply List.mem_append_left
    simp only [DataW.weights, Tryd.underlying24]
    simp only [DataW.weightsEach, List.map]
    exact List.mem_append_left _ hn))
  cases hv
  clear hA0 hval0 hsz0 hsz
  have hR : reachBytes = 140737488351232 := rfl
  have hl1 : l.length ≤ reachBytes := by omega
  refine (law_calls Cx.splits_ok W (tabs_of hL) (ags := [.agg [.lt .parse ss, .lt .str l]]) (.cons (.agg _ _ (.cons hrep0 (.cons hrep .nil))) .nil) (fun K hK => ⟨⟨⟨hl1, hl2⟩, by omega⟩, hK⟩)).mono fun e W' ⟨he, bel⟩ => ?_
  subst he
  exact ⟨_, rfl, _, _, _, [], _, [], hW', trodAll_mk1 (shut_bool Tryd.underlying4 _), trodAll_mk1 (Below.trod Tryd.laidOut (by kernel_rfl) (of_decide_eq_true (by kernel_rfl)) k0 bel lt0), rfl, bel.frame _, fun h => by cases h⟩
theorem vtSplits_holds : Rows.VtSplitsSaid :=
  OpenClaim.holds_of_wide 8 Tryd.f8 rfl rfl rfl rfl rfl rfl rfl ⟨rfl, rfl, rfl, rfl, rfl⟩ rfl rfl rfl rfl rfl (by kernel_rfl) Tryd.func8 (by kernel_rfl)
    (of_decide_eq_true (by kernel_rfl)) (by unfold Func.isWrapper; first | (rw [if_pos (by decide +kernel)]; kernel_rfl) | (rw [if_neg (by decide +kernel)]; exact ⟨rfl, rfl⟩))
    (fun os started H enc _ => vtSplits_lifted os started H enc)
end Go.Proofs.YtcdpapgkgiifjaaDoor
end
section
namespace Go.Proofs.YtcdpapgkgiifjaaDoor
open Go
theorem vtSplits_card : Rows.VtSplitsCardSaid :=
  Claim7.holds_tied_plain_at .later [] [.data, .pinned] true (true, "5ab81598d06fbbf33d612bfdde636ec19793534bc8072eba351fc57f91ed825a") true
    vtSplits_holds (fun _ h => by cases h) (by kernel_rfl) (fun _ h => by cases h) vtSplits_row_tie rfl ⟨rfl, rfl⟩ (by kernel_rfl) rfl
    (fun f fn hf hfn => by
      obtain rfl : f = 8 := Option.some.inj ((show Tryd.prog.funcNamed "beacon/beaconlaw3.VtSplits" = some 8 by kernel_rfl).symm.trans hf) |>.symm
      obtain rfl : fn = Tryd.f8 := (Option.some.inj (Tryd.func8.symm.trans hfn)).symm
      exact ⟨by kernel_rfl, fun j t ht => by
        rw [Tryd.params8] at ht
        have h3 : t = 44 := by
          rcases j with _ | j
          · simpa using ht.symm
          · simp at ht
        subst h3
        exact (show Tryd.prog.wantsStandIn 44 = false by kernel_rfl)⟩)
    (by kernel_rfl)
end Go.Proofs.YtcdpapgkgiifjaaDoor
end
