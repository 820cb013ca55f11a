/- A law is proved out of the functions' contracts. Conditions: none beyond those of the given statement. -/
import Derived.Test.YtcdpapgkgiifjaaDoorT1
import Derived.Test.YtcdpapgkgiifjaaDoorSx3
import Derived.Test.YtcdpapgkgiifjaaDoorRows
import Derived.Test.YtcdpapgkgiifjaaDoorTie
import Derived.ProofKit
import Derived.SizedLaws
import Derived.SliceStrings
import Derived.ChangeSame
import Derived.Handed
import Derived.ChangeVars
import Derived.Carry
import Derived.LaidLaws
import Derived.LaidHandle
import Derived.LaidByTextLater
import Derived.Lib.LaidU8
import Derived.Lib.LaidIn
import Derived.JoinedOf
import Derived.Test.YtcdpapgkgiifjaaDoorCards
import Derived.SevenTiedAt
set_option linter.unusedVariables false
set_option linter.unusedSimpArgs false
section
namespace Go.Cx
open Go Go.Sx Go.Proofs
set_option maxRecDepth 100000
set_option maxHeartbeats 0
def refAllCon : Con := ⟨[.v, .v], fun ags M K => match ags, M with
  | [.val (.string part), .val (.string s)], [] => ((part = ⟨#[]⟩ ∨ partS part = true) ∧ s.size ≤ 900000) ∧ ∀ l t, (l, t) = runS ([], part) (bytesL s) → K (.tup [.own 0, .s t]) [ints l]
  | _, _ => False⟩
def refAllCfg (part s : ByteArray) : Cfg := { cfg0 with rt := some rtNext, lp := (fun r => match r with | 3 => some { X := Nat × List Int × ByteArray, fr := fun x => [(0, .s x.2.2), (1, .s s), (6, .own 0), (7, .i x.1)], M := fun x => [ints x.2.1], inv := fun x => x.1 ≤ s.size ∧ runS x.2 ((bytesL s).drop x.1) = runS ([], part) (bytesL s) ∧ x.2.1.length ≤ 2 * x.1 ∧ (x.2.2 = ⟨#[]⟩ ∨ partS x.2.2 = true), mu := fun x => s.size - x.1 } | _ => none) }
theorem refAll_vc (part : ByteArray) (s : ByteArray) (K : AV → List Blk → Prop) : (evFn (env l18) Tryd.f12 (refAllCfg part s) [.s part, .s s] [] K) = (
  ∃ (x0 : Nat × List Int × ByteArray),
    (x0.fst ≤ s.size ∧ runS x0.snd (List.drop x0.fst (bytesL s)) = runS ([], part) (bytesL s) ∧ x0.snd.fst.length ≤ (2 : Nat) * x0.fst ∧ (x0.snd.snd = ByteArray.mk #[] ∨ partS x0.snd.snd = true)) ∧
      [] = x0.snd.fst ∧
        part = x0.snd.snd ∧
          s = s ∧
            (0 : Int) = (↑x0.fst : Int) ∧
              ∀ (x : Nat × List Int × ByteArray),
                x.fst ≤ s.size ∧ runS x.snd (List.drop x.fst (bytesL s)) = runS ([], part) (bytesL s) ∧ x.snd.fst.length ≤ (2 : Nat) * x.fst ∧ (x.snd.snd = ByteArray.mk #[] ∨ partS x.snd.snd = true) →
                  (decide ((↑x.fst : Int) < (↑s.size : Int)) = true →
                      ((0 : Int) ≤ (↑x.fst : Int) ∧ (↑x.fst : Int) < (↑s.size : Int)) ∧
                        ((x.snd.snd = ByteArray.mk #[] ∨ partS x.snd.snd = true) ∧ (0 : Int) ≤ bt s (↑x.fst : Int).toNat ∧ bt s (↑x.fst : Int).toNat < (256 : Int)) ∧
                          ∀ (l : List Int) (t : ByteArray),
                            (l, t) = stepS x.snd.snd (bt s (↑x.fst : Int).toNat) →
                              (x.snd.fst.length + l.length ≤ (1099511627776 : Nat) ∧ (x.snd.fst.length + l.length) * (8 : Nat) ≤ (140737488355328 : Nat)) ∧
                                ∃ (x' : Nat × List Int × ByteArray),
                                  ((x'.fst ≤ s.size ∧
                                        runS x'.snd (List.drop x'.fst (bytesL s)) = runS ([], part) (bytesL s) ∧
                                          x'.snd.fst.length ≤ (2 : Nat) * x'.fst ∧ (x'.snd.snd = ByteArray.mk #[] ∨ partS x'.snd.snd = true)) ∧
                                      s.size - x'.fst < s.size - x.fst) ∧
                                    x.snd.fst ++ l = x'.snd.fst ∧ t = x'.snd.snd ∧ s = s ∧ IntKind.i64.wrap ((↑x.fst : Int) + (1 : Int)) = (↑x'.fst : Int) ∧ True) ∧
                    (decide ((↑x.fst : Int) < (↑s.size : Int)) = false →
                      ∃ (x_1 : List Int × ByteArray), x.snd.fst = x_1.fst ∧ x.snd.snd = x_1.snd ∧ K (AV.tup [AV.own (0 : Nat), AV.val (Value.string x_1.snd)]) [Blk.arr (Kd.int IntKind.i64) x_1.fst])) := by kernel_rfl

theorem beginS_may (b : Int) : (beginS b).2 = ⟨#[]⟩ ∨ partS (beginS b).2 = true := by
  unfold beginS
  split
  · exact .inl rfl
  · split
    · rename_i h; exact .inr h
    · exact .inl rfl
theorem stepS_may (part : ByteArray) (b : Int) : (stepS part b).2 = ⟨#[]⟩ ∨ partS (stepS part b).2 = true := by
  unfold stepS
  split
  · exact beginS_may b
  · split
    · rename_i h; exact .inr h
    · split
      · exact .inl rfl
      · exact beginS_may b
theorem refAll_ok : ConOk Tryd.prog 12 refAllCon := fn_ok2 (env_ok l18_ok) mixed Tryd.func12 rfl refAllCon (by
  intro ags M K h
  unfold refAllCon at h
  simp only at h
  split at h
  · rename_i part s
    refine ⟨refAllCfg part s, ?_⟩
    show evFn (env l18) _ _ [.s part, .s s] [] _
    rw [refAll_vc]
    obtain ⟨⟨p1, p2⟩, h⟩ := h
    refine ⟨(0, [], part), ⟨Nat.zero_le _, rfl, Nat.zero_le _, p1⟩, rfl, rfl, rfl, rfl, ?_⟩
    rintro ⟨i, xs, t⟩ ⟨q1, q2, q3, q4⟩
    simp only at q1 q2 q3 q4
    refine ⟨fun h2 => ?_, fun h2 => ⟨(xs, t), rfl, rfl, h _ _ ?_⟩⟩
    · have h2 : (i : Int) < s.size := of_decide_eq_true h2
      have hi : i < s.size := by omega
      rw [Int.toNat_natCast]
      have hr := bt_range s i
      refine ⟨⟨Int.natCast_nonneg i, h2⟩, ⟨q4, hr.1, hr.2⟩, fun l t' e => ⟨⟨?_, ?_⟩, (i + 1, xs ++ l, t'), ⟨⟨?_, ?_, ?_, ?_⟩, ?_⟩, rfl, rfl, rfl, ?_, trivial⟩⟩
      · have := (stepS_len t (bt s i)).1
        rw [← e] at this
        have this : l.length ≤ 2 := this
        show xs.length + l.length ≤ 1099511627776
        omega
      · have := (stepS_len t (bt s i)).1
        rw [← e] at this
        have this : l.length ≤ 2 := this
        show (xs.length + l.length) * 8 ≤ 140737488355328
        omega
      · show i + 1 ≤ s.size; omega
      · show runS (xs ++ l, t') ((bytesL s).drop (i + 1)) = _
        rw [← q2, drop_bytes hi, runS]
        rw [← e]
      · show (xs ++ l).length ≤ 2 * (i + 1)
        have := (stepS_len t (bt s i)).1
        rw [← e] at this
        have this : l.length ≤ 2 := this
        rw [List.length_append]; omega
      · have := stepS_may t (bt s i)
        rw [← e] at this; exact this
      · show s.size - (i + 1) < s.size - i; omega
      · show IntKind.i64.wrap ((i : Int) + 1) = ((i + 1 : Nat) : Int)
        rw [w64 (by omega)]; omega
    · have h2 : ¬ (i : Int) < s.size := of_decide_eq_false h2
      have hi : i = s.size := by omega
      subst hi
      rw [List.drop_of_length_le (by rw [bytesL_len]; exact Nat.le_refl _)] at q2
      exact q2
  · exact h.elim)
def l19 : List (FuncId × Con) := (12, refAllCon) :: l18
theorem l19_ok : ConsOk Tryd.prog (look l19) := cons_cons l18_ok refAll_ok
def wakesCon : Con := ⟨[], fun ags M K => match ags, M with
  | [], [] => K (.b true) []
  | _, _ => False⟩
def wakesCfg : Cfg := { cfg0 with rt := some rtB, jn := fun _ => none }
theorem wakes_vc (K : AV → List Blk → Prop) : (evFn (env l19) Tryd.f16 wakesCfg [] [] K) = (
  ((2 : Nat) ≤ (900000 : Nat) ∧ (0 : Nat) ≤ (10000 : Nat)) ∧
    ∀ (l : List Int) (t : ByteArray) (e : Int),
      (l, t, e) = allP (ByteArray.mk #[]) (ByteArray.mk #[(195 : UInt8), (169 : UInt8)]) →
        (decide (e = (0 : Int)) = true →
            (decide (t = ByteArray.mk #[]) = true → l.length ≤ (4611686018427387904 : Nat) ∧ ∀ (r : Bool), r = decide (l = [(233 : Int)]) → ∃ (x : Bool), r = x ∧ K (AV.val (Value.bool x)) []) ∧
              (decide (t = ByteArray.mk #[]) = false → ∃ (x : Bool), x = false ∧ K (AV.val (Value.bool x)) [])) ∧
          (decide (e = (0 : Int)) = false → ∃ (x : Bool), x = false ∧ K (AV.val (Value.bool x)) [])) := by kernel_rfl

theorem wakes_val : allP (ByteArray.mk #[]) (ByteArray.mk #[(195 : UInt8), (169 : UInt8)]) = ([233], ⟨#[]⟩, 0) := by kernel_rfl
theorem wakes_ok : ConOk Tryd.prog 16 wakesCon := fn_ok (env_ok l19_ok) mixed Tryd.func16 rfl wakesCon wakesCfg (by
  intro ags M K h
  unfold wakesCon at h
  simp only at h
  split at h
  · show evFn (env l19) _ _ [] [] _
    rw [wakes_vc]
    refine ⟨⟨by omega, by omega⟩, fun l t e he => ?_⟩
    rw [wakes_val] at he
    obtain ⟨rfl, rfl, rfl⟩ : l = [233] ∧ t = ⟨#[]⟩ ∧ e = 0 := by
      simp only [Prod.mk.injEq] at he; exact he
    refine ⟨fun _ => ⟨fun _ => ⟨by show 1 ≤ 4611686018427387904; omega, fun r hr => ⟨true, ?_, h⟩⟩, fun h2 => ?_⟩, fun h1 => ?_⟩
    · rw [hr]; rfl
    · simp at h2
    · simp at h1
  · exact h.elim)
def l20 : List (FuncId × Con) := (16, wakesCon) :: l19
theorem l20_ok : ConsOk Tryd.prog (look l20) := cons_cons l19_ok wakes_ok
def utfAllCon : Con := ⟨[.v], fun ags M K => match ags, M with
  | [.agg [.lt .str l]], [] => (l.length ≤ 140737488351232 ∧ ∀ s ∈ (l : List ByteArray), s.size ≤ 140737488351232) ∧ K (.b true) []
  | _, _ => False⟩
def utfAllCfg (l : List ByteArray) : Cfg := { cfg0 with rt := some rtB, hd := (fun r => match r with | 9 => [10, 11, 12, 17, 18] | 15 => [10, 11, 12, 15, 16] | _ => []), jn := (fun r => match r with | 4 => some 21 | 7 => some 32 | 16 => some 84 | _ => none), lp := (fun r => match r with
  | 4 => some { X := Nat, fr := fun x => [(1, .ptr 0 0), (3, .i x)], M := fun _ => [.flat [.lt .str l]], inv := fun x => x ≤ l.length, mu := fun x => l.length - x }
  | 7 => some { X := Nat × Nat, fr := fun x => [(1, .ptr 0 0), (3, .i x.1), (4, .i x.2)], M := fun _ => [.flat [.lt .str l]], inv := fun _ => True, rel := fun x0 x => (x.1 < l.length ∧ x.2 ≤ l.length) ∧ x.1 = x0.1, mu := fun x => l.length - x.2 }
  | _ => none) }
theorem utfAll_vc (l : List ByteArray) (K : AV → List Blk → Prop) : (evFn (env l20) Tryd.f3 (utfAllCfg l) [.agg [.lt .str l]] [] K) = (
  (1 : Nat) ≤ [AV.lt Kd.str l].length ∧
    (l.length ≤ (140737488351232 : Nat) ∧ ∀ (s : El Kd.str), s ∈ l → ByteArray.size s ≤ (140737488351232 : Nat)) ∧
      ∀ (r : Bool),
        (r = false → ∀ (s : El Kd.str), s ∈ l → ByteArray.size s ≤ (4000 : Nat)) →
          (r = true → ∃ (x : Bool), x = true ∧ K (AV.val (Value.bool x)) []) ∧
            (r = false →
              ∃ (x0 : Nat),
                x0 ≤ l.length ∧
                  l = l ∧
                    (0 : Nat) = (0 : Nat) ∧
                      (0 : Int) = (↑x0 : Int) ∧
                        ∀ (x : Nat),
                          x ≤ l.length →
                            ∃ (c : Bool),
                              ((decide ((↑x : Int) < (↑l.length : Int)) = true → Same [Blk.flat [AV.lt Kd.str l]] [Blk.flat [AV.lt Kd.str l]] ∧ decide ((↑x : Int) < (6 : Int)) = c) ∧
                                  (decide ((↑x : Int) < (↑l.length : Int)) = false → Same [Blk.flat [AV.lt Kd.str l]] [Blk.flat [AV.lt Kd.str l]] ∧ false = c)) ∧
                                (c = true →
                                    ∃ (x0 : Nat × Nat),
                                      ((x0.fst < l.length ∧ x0.snd ≤ l.length) ∧ x0.fst = x0.fst) ∧
                                        l = l ∧
                                          (0 : Nat) = (0 : Nat) ∧
                                            (↑x : Int) = (↑x0.fst : Int) ∧
                                              (0 : Int) = (↑x0.snd : Int) ∧
                                                ∀ (x_1 : Nat × Nat),
                                                  (x_1.fst < l.length ∧ x_1.snd ≤ l.length) ∧ x_1.fst = x0.fst →
                                                    ∃ (c : Bool),
                                                      ((decide ((↑x_1.snd : Int) < (↑l.length : Int)) = true →
                                                            Same [Blk.flat [AV.lt Kd.str l]] [Blk.flat [AV.lt Kd.str l]] ∧ decide ((↑x_1.snd : Int) < (6 : Int)) = c) ∧
                                                          (decide ((↑x_1.snd : Int) < (↑l.length : Int)) = false → Same [Blk.flat [AV.lt Kd.str l]] [Blk.flat [AV.lt Kd.str l]] ∧ false = c)) ∧
                                                        (c = true →
                                                            ((0 : Int) ≤ (↑x_1.fst : Int) ∧ (↑x_1.fst : Int) < (↑l.length : Int)) ∧
                                                              ∀ (y : El Kd.str),
                                                                l[(↑x_1.fst : Int).toNat]? = some y →
                                                                  ((0 : Int) ≤ (↑x_1.snd : Int) ∧ (↑x_1.snd : Int) < (↑l.length : Int)) ∧
                                                                    ∀ (y_1 : El Kd.str),
                                                                      l[(↑x_1.snd : Int).toNat]? = some y_1 →
                                                                        (ByteArray.size y_1 ≤ (900000 : Nat) ∧ ByteArray.size y ≤ (10000 : Nat)) ∧
                                                                          ∀ (l_1 : List Int) (t : ByteArray) (e : Int),
                                                                            (l_1, t, e) = allP y y_1 →
                                                                              ((0 : Int) ≤ (↑x_1.fst : Int) ∧ (↑x_1.fst : Int) < (↑l.length : Int)) ∧
                                                                                ∀ (y : El Kd.str),
                                                                                  l[(↑x_1.fst : Int).toNat]? = some y →
                                                                                    ∀ (r : Bool),
                                                                                      r = decide (y = ByteArray.mk #[] ∨ partS y = true) →
                                                                                        (r = true →
                                                                                            ((0 : Int) ≤ (↑x_1.fst : Int) ∧ (↑x_1.fst : Int) < (↑l.length : Int)) ∧
                                                                                              ∀ (y : El Kd.str),
                                                                                                l[(↑x_1.fst : Int).toNat]? = some y →
                                                                                                  ((0 : Int) ≤ (↑x_1.snd : Int) ∧ (↑x_1.snd : Int) < (↑l.length : Int)) ∧
                                                                                                    ∀ (y_2 : El Kd.str),
                                                                                                      l[(↑x_1.snd : Int).toNat]? = some y_2 →
                                                                                                        ((y = ByteArray.mk #[] ∨ partS y = true) ∧ ByteArray.size y_2 ≤ (900000 : Nat)) ∧
                                                                                                          ∀ (l_2 : List Int) (t_1 : ByteArray),
                                                                                                            (l_2, t_1) = runS ([], y) (bytesL y_2) →
                                                                                                              ∃ (c : Bool),
                                                                                                                (((!decide (e = (0 : Int))) = true →
                                                                                                                      Same
                                                                                                                          [Blk.flat [AV.lt Kd.str l], Blk.arr (Kd.int IntKind.i64) l_1,
                                                                                                                            Blk.arr (Kd.int IntKind.i64) l_2]
                                                                                                                          [Blk.flat [AV.lt Kd.str l], Blk.arr (Kd.int IntKind.i64) l_1,
                                                                                                                            Blk.arr (Kd.int IntKind.i64) l_2] ∧
                                                                                                                        true = c) ∧
                                                                                                                    ((!decide (e = (0 : Int))) = false →
                                                                                                                      ((!decide (t = t_1)) = true →
                                                                                                                          Same
                                                                                                                              [Blk.flat [AV.lt Kd.str l], Blk.arr (Kd.int IntKind.i64) l_1,
                                                                                                                                Blk.arr (Kd.int IntKind.i64) l_2]
                                                                                                                              [Blk.flat [AV.lt Kd.str l], Blk.arr (Kd.int IntKind.i64) l_1,
                                                                                                                                Blk.arr (Kd.int IntKind.i64) l_2] ∧
                                                                                                                            true = c) ∧
                                                                                                                        ((!decide (t = t_1)) = false →
                                                                                                                          l_1.length ≤ (4611686018427387904 : Nat) ∧
                                                                                                                            ∀ (r : Bool),
                                                                                                                              r = decide (l_1 = l_2) →
                                                                                                                                Same
                                                                                                                                    [Blk.flat [AV.lt Kd.str l], Blk.arr (Kd.int IntKind.i64) l_1,
                                                                                                                                      Blk.arr (Kd.int IntKind.i64) l_2]
                                                                                                                                    [Blk.flat [AV.lt Kd.str l], Blk.arr (Kd.int IntKind.i64) l_1,
                                                                                                                                      Blk.arr (Kd.int IntKind.i64) l_2] ∧
                                                                                                                                  (!r) = c))) ∧
                                                                                                                  (c = true → ∃ (x : Bool), x = false ∧ K (AV.val (Value.bool x)) []) ∧
                                                                                                                    (c = false →
                                                                                                                      l_1.length ≤ (1000000000 : Nat) ∧
                                                                                                                        ∀ (ys : List Int),
                                                                                                                          ∃ (x' : Nat × Nat),
                                                                                                                            (((x'.fst < l.length ∧ x'.snd ≤ l.length) ∧ x'.fst = x0.fst) ∧
                                                                                                                                l.length - x'.snd < l.length - x_1.snd) ∧
                                                                                                                              l = l ∧
                                                                                                                                (0 : Nat) = (0 : Nat) ∧
                                                                                                                                  (↑x_1.fst : Int) = (↑x'.fst : Int) ∧
                                                                                                                                    IntKind.i64.wrap ((↑x_1.snd : Int) + (1 : Int)) = (↑x'.snd : Int) ∧
                                                                                                                                      True)) ∧
                                                                                          (r = false →
                                                                                            ∃ (c : Bool),
                                                                                              (((!decide (e = (1 : Int))) = true →
                                                                                                    Same [Blk.flat [AV.lt Kd.str l], Blk.arr (Kd.int IntKind.i64) l_1]
                                                                                                        [Blk.flat [AV.lt Kd.str l], Blk.arr (Kd.int IntKind.i64) l_1] ∧
                                                                                                      true = c) ∧
                                                                                                  ((!decide (e = (1 : Int))) = false →
                                                                                                    ((!decide (t = ByteArray.mk #[])) = true →
                                                                                                        Same [Blk.flat [AV.lt Kd.str l], Blk.arr (Kd.int IntKind.i64) l_1]
                                                                                                            [Blk.flat [AV.lt Kd.str l], Blk.arr (Kd.int IntKind.i64) l_1] ∧
                                                                                                          true = c) ∧
                                                                                                      ((!decide (t = ByteArray.mk #[])) = false →
                                                                                                        l_1.length ≤ (4611686018427387904 : Nat) ∧
                                                                                                          ∀ (r : Bool),
                                                                                                            r = decide (l_1 = []) →
                                                                                                              Same [Blk.flat [AV.lt Kd.str l], Blk.arr (Kd.int IntKind.i64) l_1]
                                                                                                                  [Blk.flat [AV.lt Kd.str l], Blk.arr (Kd.int IntKind.i64) l_1] ∧
                                                                                                                (!r) = c))) ∧
                                                                                                (c = true → ∃ (x : Bool), x = false ∧ K (AV.val (Value.bool x)) []) ∧
                                                                                                  (c = false →
                                                                                                    l_1.length ≤ (1000000000 : Nat) ∧
                                                                                                      ∀ (ys : List Int),
                                                                                                        ∃ (x' : Nat × Nat),
                                                                                                          (((x'.fst < l.length ∧ x'.snd ≤ l.length) ∧ x'.fst = x0.fst) ∧
                                                                                                              l.length - x'.snd < l.length - x_1.snd) ∧
                                                                                                            l = l ∧
                                                                                                              (0 : Nat) = (0 : Nat) ∧
                                                                                                                (↑x_1.fst : Int) = (↑x'.fst : Int) ∧
                                                                                                                  IntKind.i64.wrap ((↑x_1.snd : Int) + (1 : Int)) = (↑x'.snd : Int) ∧ True))) ∧
                                                          (c = false →
                                                            ∃ (x' : Nat),
                                                              (x' ≤ l.length ∧ l.length - x' < l.length - x) ∧
                                                                l = l ∧ (0 : Nat) = (0 : Nat) ∧ IntKind.i64.wrap ((↑x_1.fst : Int) + (1 : Int)) = (↑x' : Int) ∧ True)) ∧
                                  (c = false → ∃ (x : Bool), true = x ∧ K (AV.val (Value.bool x)) []))) := by kernel_rfl

theorem runS_len : ∀ (bs : List Int) (st : List Int × ByteArray), (runS st bs).1.length ≤ st.1.length + 2 * bs.length
  | [], st => by simp [runS]
  | b :: r, st => by
    rw [runS]
    have h1 := runS_len r (st.1 ++ (stepS st.2 b).1, (stepS st.2 b).2)
    have h2 := (stepS_len st.2 b).1
    simp only [List.length_append, List.length_cons] at h1 ⊢
    omega
theorem allP_may {y z : ByteArray} (h : y = ⟨#[]⟩ ∨ partS y = true) : allP y z = ((runS ([], y) (bytesL z)).1, (runS ([], y) (bytesL z)).2, 0) := by
  unfold allP
  rw [if_neg]
  rintro ⟨h1, h2⟩
  rcases h with h | h
  · exact h1 h
  · rw [h2] at h; cases h
theorem allP_not {y z : ByteArray} (h : ¬ (y = ⟨#[]⟩ ∨ partS y = true)) : allP y z = ([], ⟨#[]⟩, 1) := by
  unfold allP
  rw [if_pos]
  refine ⟨fun e => h (.inl e), ?_⟩
  cases hp : partS y with
  | true => exact absurd (.inr hp) h
  | false => rfl
theorem utfAll_ok : ConOk Tryd.prog 3 utfAllCon := fn_ok2 (env_ok l20_ok) mixed Tryd.func3 rfl utfAllCon (by
  intro ags M K h
  unfold utfAllCon at h
  simp only at h
  split at h
  · rename_i l
    refine ⟨utfAllCfg l, ?_⟩
    show evFn (env l20) _ _ [.agg [.lt .str l]] [] _
    rw [utfAll_vc]
    obtain ⟨hp, h⟩ := h
    refine ⟨Nat.le_refl 1, hp, fun r hr => ⟨fun _ => ⟨true, rfl, h⟩, fun h1 => ?_⟩⟩
    have hs := hr h1
    refine ⟨0, Nat.zero_le _, rfl, rfl, rfl, fun x hx => ?_⟩
    refine ⟨decide ((x : Int) < l.length ∧ (x : Int) < 6), ⟨fun a => ⟨rfl, ?_⟩, fun a => ⟨rfl, ?_⟩⟩, fun a => ?_, fun _ => ⟨true, rfl, h⟩⟩
    · have a := of_decide_eq_true a
      simp [a]
    · have a := of_decide_eq_false a
      symm; apply decide_eq_false; rintro ⟨e, _⟩; exact a e
    obtain ⟨a1, a2⟩ := of_decide_eq_true a
    refine ⟨(x, 0), ⟨⟨by show x < l.length; omega, Nat.zero_le _⟩, rfl⟩, rfl, rfl, rfl, rfl, ?_⟩
    rintro ⟨i, k⟩ ⟨⟨b1, b2⟩, b3⟩
    have b3 : i = x := b3
    have b1 : i < l.length := b1
    have b2 : k ≤ l.length := b2
    refine ⟨decide ((k : Int) < l.length ∧ (k : Int) < 6), ⟨fun a => ⟨rfl, ?_⟩, fun a => ⟨rfl, ?_⟩⟩, fun a => ?_, fun a => ?_⟩
    · have a : (k : Int) < l.length := of_decide_eq_true a
      simp [a]
    · have a : ¬ (k : Int) < l.length := of_decide_eq_false a
      symm; apply decide_eq_false; rintro ⟨e, _⟩; exact a e
    · obtain ⟨c1, c2⟩ := of_decide_eq_true a
      have hi : (0 : Int) ≤ (i : Int) ∧ (i : Int) < l.length := ⟨by omega, by omega⟩
      have hk : (0 : Int) ≤ (k : Int) ∧ (k : Int) < l.length := ⟨by omega, c1⟩
      refine ⟨hi, fun y hy => ⟨hk, fun z hz => ?_⟩⟩
      have sy : ByteArray.size y ≤ 4000 := hs y (List.mem_of_getElem? hy)
      have sz : ByteArray.size z ≤ 4000 := hs z (List.mem_of_getElem? hz)
      refine ⟨⟨by omega, by omega⟩, fun l1 t e he => ⟨hi, fun y' hy' r hr => ?_⟩⟩
      have ey : y' = y := by
        have := hy'.symm.trans hy
        exact Option.some.inj this
      subst ey
      have hrun := runS_len (bytesL z) ([], y')
      have hb := bytesL_len z
      have step : (((i < l.length ∧ k + 1 ≤ l.length) ∧ i = x) ∧ l.length - (k + 1) < l.length - k) ∧ l = l ∧ (0 : Nat) = 0 ∧ (i : Int) = (i : Int) ∧ IntKind.i64.wrap ((k : Int) + 1) = ((k + 1 : Nat) : Int) ∧ True :=
        ⟨⟨⟨⟨b1, by omega⟩, b3⟩, by omega⟩, rfl, rfl, rfl, by rw [w64 (by omega)]; omega, trivial⟩
      refine ⟨fun hrt => ⟨hi, fun y2 hy2 => ⟨hk, fun z2 hz2 => ?_⟩⟩, fun hrf => ?_⟩
      · have ey : y2 = y' := Option.some.inj (hy2.symm.trans hy')
        have ez : z2 = z := Option.some.inj (hz2.symm.trans hz)
        subst ey ez
        have hm : y2 = ⟨#[]⟩ ∨ partS y2 = true := of_decide_eq_true (hr.symm.trans hrt)
        rw [allP_may hm] at he
        refine ⟨⟨hm, by omega⟩, fun l2 t2 he2 => ?_⟩
        have e1 : l1 = (runS ([], y2) (bytesL z2)).1 := congrArg (·.1) he
        have e2 : t = (runS ([], y2) (bytesL z2)).2 := congrArg (·.2.1) he
        have e3 : e = 0 := congrArg (·.2.2) he
        have e4 : l2 = (runS ([], y2) (bytesL z2)).1 := congrArg (·.1) he2
        have e5 : t2 = (runS ([], y2) (bytesL z2)).2 := congrArg (·.2) he2
        rw [← e1] at hrun e4
        rw [← e2] at e5
        subst e3 e4 e5
        have hlen : l2.length ≤ 2 * ByteArray.size z2 := by
          have : l2.length ≤ 0 + 2 * (bytesL z2).length := hrun
          omega
        refine ⟨false, ⟨fun q => by simp at q, fun _ => ⟨fun q => by simp at q, fun _ => ⟨by omega, fun r hr => ⟨rfl, by rw [hr]; simp⟩⟩⟩⟩, (fun q => by cases q), fun _ => ⟨by omega, fun ys => ⟨(i, k + 1), step⟩⟩⟩
      · have hm : ¬ (y' = ⟨#[]⟩ ∨ partS y' = true) := of_decide_eq_false (hr.symm.trans hrf)
        rw [allP_not hm] at he
        have e1 : l1 = [] := congrArg (·.1) he
        have e2 : t = ⟨#[]⟩ := congrArg (·.2.1) he
        have e3 : e = 1 := congrArg (·.2.2) he
        subst e1 e2 e3
        refine ⟨false, ⟨fun q => by simp at q, fun _ => ⟨fun q => by simp at q, fun _ => ⟨Nat.zero_le _, fun r hr => ⟨rfl, by rw [hr]; simp⟩⟩⟩⟩, (fun q => by cases q), fun _ => ⟨Nat.zero_le _, fun ys => ⟨(i, k + 1), step⟩⟩⟩
    · refine ⟨i + 1, ⟨by omega, ?_⟩, rfl, rfl, ?_, trivial⟩
      · omega
      · show IntKind.i64.wrap ((i : Int) + 1) = ((i + 1 : Nat) : Int)
        rw [w64 (by omega)]; omega
  · exact h.elim)
end Go.Cx
end
section
namespace Go.Proofs.YtcdpapgkgiifjaaDoor
open Go Go.Sx Go.ChangeShapes Go.WideShapes Go.ChangeAt Go.RowKit
set_option maxRecDepth 100000
theorem Tryd.own : ownKnob Tryd.prog.godebug = none := by kernel_rfl
theorem Tryd.laidOut : laidOutB Tryd.prog = true := by kernel_rfl
def lds : List (String × DataW Unit) := [("unicode/utf8.acceptRanges", Rows.laid_unicode_utf8_acceptRanges), ("unicode/utf8.first", Rows.laid_unicode_utf8_first)]
theorem acc_eq : (Rows.laid_unicode_utf8_acceptRanges : DataW Unit) = Lib.acceptData := by kernel_rfl
theorem first_eq : (Rows.laid_unicode_utf8_first : DataW Unit) = Lib.firstData := by kernel_rfl
theorem u8x : U8Extra Tryd.prog Tryd.lays260_ren := ⟨by kernel_rfl, by kernel_rfl, by kernel_rfl, by kernel_rfl, by kernel_rfl, by kernel_rfl, by kernel_rfl⟩
theorem plain_lds : lds.all (fun x => x.2.handleName?.isNone) = true := by kernel_rfl
theorem tabs_of {W : World} (h : laidMetH Tryd.prog lds W) : ∀ g3 g4, Tryd.prog.globalNamed "unicode/utf8.first" = some g3 → Tryd.prog.globalNamed "unicode/utf8.acceptRanges" = some g4 → Lib.Utf8Tabs g3 g4 W := by
  intro g3 g4 h3 h4
  obtain ⟨hm, _⟩ := laidMetH_iff.1 h
  have e : (lds.filter fun x => x.2.handleName?.isNone) = lds := by kernel_rfl
  rw [e] at hm
  have r4 := Lib.laidMet.reads hm (n := "unicode/utf8.acceptRanges") (d := Rows.laid_unicode_utf8_acceptRanges) (.head _)
  have r3 := Lib.laidMet.reads hm (n := "unicode/utf8.first") (d := Rows.laid_unicode_utf8_first) (.tail _ (.head _))
  rw [acc_eq] at r4
  rw [first_eq] at r3
  obtain rfl := Option.some.inj (u8x.n3.symm.trans h3)
  obtain rfl := Option.some.inj (u8x.n4.symm.trans h4)
  exact utf8Tabs_of_reads Tryd.lays260 u8x r3 r4
/-- a world that meets the condition -/
noncomputable def laidWorld (os : Os) : World :=
  let w0 := World.holding Tryd.prog os ⟨#[], #[], []⟩
  let put (h : Array Obj) (g : Nat) (cs : Array Value) : Array Obj := h.modify g fun
    | .cells _ t frozen => .cells cs t frozen
    | o => o
  let h1 := put w0.heap 0 (Lib.firstTab.map fun z => Value.int .u8 z).toArray
  let h2 := put h1 1 ((List.range 16).flatMap fun i => [Value.int .u8 (Lib.accLo i), Value.int .u8 (Lib.accHi i)]).toArray
  { w0 with heap := h2 }
theorem laidWorld_met (os : Os) (args : Array Value) : laidMetH Tryd.prog lds ((laidWorld os).forCall (fun _ _ => 0) ⟨#[], args, []⟩).memory :=
  laidMetH_of_parts (LaidIn.of_run [0, 1] 8 (by kernel_rfl) (by kernel_rfl) (by kernel_rfl) (by kernel_rfl)).met (by kernel_rfl)
end Go.Proofs.YtcdpapgkgiifjaaDoor
end
section
namespace Go.Proofs.YtcdpapgkgiifjaaDoor
open Go Go.Sx Go.ChangeShapes Go.WideShapes Go.ChangeAt Go.RowKit
set_option maxRecDepth 100000
theorem strs_weights {H : Type} {P : Program} {e : TypeId} : ∀ (ss : List ByteArray) (s : ByteArray), s ∈ ss → s.size ∈ DataW.weightsAll P e (strs (H := H) ss)
  | s0 :: ss, s, h => by
    show s.size ∈ DataW.weightsAll P e (.lit (.string s0.data.toList) :: strs ss)
    simp only [DataW.weightsAll, DataW.weights, List.mem_append, List.mem_singleton]
    rcases List.mem_cons.1 h with rfl | h
    · left; simp
    · right; exact strs_weights ss s h
/-- a slice of strings, opened -/
theorem open_strs {H : Type} {enc : TypeId × Value → H} {P : Program} {W : World} {t e : TypeId} {fuel : Nat} {cs : List Value} {x : DataW H × List MemPlace} (ht : P.underlying t = some (.slice e)) (he : P.underlying e = some .string) (hc : P.cellsOf e = 1) (hb : P.bytesOf e = 16)
    (h : DataW.trod enc P W 0 (fun _ => true) true fuel t cs = some x) (hz : ∀ n ∈ x.1.weights P t, n ≤ reachBytes) :
    ∃ (l : List ByteArray) (v : Value), cs = [v] ∧ Rep (heapPH W) (fun _ => none) [] (.lt .str l) v ∧ l.length ≤ reachBytes ∧ ∀ s ∈ l, s.size ≤ reachBytes := by
  rcases open_strings ht he hc h with ⟨hcs, hx⟩ | ⟨a, len, cap, ss, hcs, _, hl, hm, hlen, hx, hcell, hsz⟩
  · exact ⟨[], _, hcs, .lt .str [] none 0 (fun _ => []) (Nat.le_refl _) trivial (fun _ => rfl) (fun i x h => by simp at h) (fun i x j c h => by simp at h), Nat.zero_le _, fun s h => by simp at h⟩
  · have hlc : len ≤ ss.length := by rw [hlen]; simp; exact hl
    refine ⟨ss.take len, _, hcs, strs_rep hl hlc hcell, ?_, ?_⟩
    · subst hx
      have h1 : ((strs (H := H) (ss.take len)).length + (strs (H := H) (ss.drop len)).length) * P.bytesOf e ≤ reachBytes := hz _ (by simp [DataW.weights, ht])
      rw [hb] at h1
      have : (strs (H := H) (ss.take len)).length = (ss.take len).length := by simp [strs]
      rw [this] at h1
      omega
    · intro s hs
      subst hx
      refine hz _ ?_
      simp only [DataW.weights, ht]
      exact List.mem_cons_of_mem _ (List.mem_append_left _ (strs_weights _ _ hs))
/-- a struct of one field, opened -/
theorem open_struct1 {H : Type} {enc : TypeId × Value → H} {P : Program} {W : World} {t : TypeId} {f0 : Field} {v : Value} {d : DataW H} {p : List MemPlace} {base : Nat} (ht : P.underlying t = some (.struct #[f0])) (hc : P.cellsOf t = 1) (h0 : f0.offset = 0) (hc0 : P.cellsOf f0.type = 1)
    (hv : Value.okWide P W .any base t v) (h : DataW.Trod enc P W 0 (fun _ => true) true t v d p) :
    ∃ u y n, v = .agg #[u] ∧ d = .agg [y.1] ∧ DataW.trod enc P W 0 (fun _ => true) true n f0.type [u] = some y := by
  obtain ⟨cs, rfl, hcs⟩ := okWide_struct ht hv
  obtain ⟨fuel, hf⟩ := h
  have e : (Value.agg cs).cells = cs := rfl
  rw [e] at hf
  rw [hc] at hcs
  obtain ⟨u, hu⟩ : ∃ u, cs = #[u] := by
    match cs, hcs with
    | ⟨[u]⟩, _ => exact ⟨u, rfl⟩
  subst hu
  obtain ⟨y0, n, hx, _, hy⟩ := trod_struct1 ht hf
  rw [h0, hc0] at hy
  cases hx
  exact ⟨u, y0, n, rfl, rfl, hy⟩
theorem utfAll_lifted (os : Os) (started : os.Started) (H : Type) (enc : TypeId × Value → H) :
    ReturnsInHanded {} Tryd.checked os 3 .any (fun w args => (Rows.utfAllSpec.pre enc Tryd.prog Tryd.f3 [] false w args ∧ laidMetH Tryd.prog lds w) ∧ sizedMet enc Tryd.prog Tryd.f3 (OpenSpec.ofChange Rows.utfAllSpec) false w args)
      (Rows.utfAllSpec.post enc Tryd.prog Tryd.f3 false true false false) := by
  refine returnsInHanded_of_change_and (C := Tryd.checked) (X := fun w _ => laidMetH Tryd.prog lds w) (fun _ _ _ hh h => h.of_heap hh) Tryd.own started (by kernel_rfl) Tryd.func3
    (ChangeSpec.witness_at (enc := enc) (C := Tryd.checked) (os := os) (X := fun w _ => laidMetH Tryd.prog lds w) false (laidWorld os) #[.agg #[.slice none 0 0]] 8 rfl (by kernel_rfl) (by kernel_rfl) (by kernel_rfl) (by kernel_rfl) (by kernel_rfl) (laidWorld_met os _)) ?_
  intro W base args ds gs before hval0 hW _ hsz0 hL _
  have hsz : (DataW.weightsEach Tryd.prog (Tryd.f3.params.toList ++ Rows.utfAllSpec.plain.varTypes Tryd.prog) (ds ++ gs)).all (· ≤ reachBytes) = true := hsz0
  have hval : ∀ (j : Nat) t v, Tryd.f3.params[j]? = some t → args[j]? = some v → Value.okWide Tryd.prog W .any base t v := hval0
  have hW' := hW
  obtain ⟨p, q, hA0, hV, rfl, hfz, hnd⟩ := hW
  have hA : DataW.TrodAll enc Tryd.prog W 0 (fun _ => true) true Tryd.f3.params.toList args.toList ds p := hA0
  rw [Tryd.params3] at hA hval hsz
  obtain ⟨v0, vs0, d0, ds0, p0, q0, hargs, rfl, rfl, h0, r0⟩ := trodAll_cons hA
  obtain ⟨rfl, rfl, rfl⟩ := trodAll_nil r0
  obtain rfl : args = #[v0] := by cases args; simp_all
  obtain ⟨rfl, rfl⟩ := trodVars_none hV
  have k0 := h0
  have lt0 : ∀ x ∈ p0, x.block < W.heap.size := by obtain ⟨m, hm⟩ := k0; exact DataW.trod_lt m _ _ _ hm
  have hw0 : ∀ n ∈ d0.weights Tryd.prog 24, n ≤ reachBytes := fun n hn => of_decide_eq_true (List.all_eq_true.1 hsz n (DataW.weights_mem_each (j := 0) rfl rfl n hn))
  obtain ⟨u, y, n, rfl, rfl, hy⟩ := open_struct1 Tryd.underlying24 (by kernel_rfl) rfl (by kernel_rfl) (hval 0 24 v0 rfl rfl) h0
  obtain ⟨l, v, hv, hrep, hl1, hl2⟩ := open_strs Tryd.underlying22 Tryd.underlying9 (by kernel_rfl) (by kernel_rfl) hy (fun n hn => hw0 n (by
    simp only [DataW.weights, Tryd.underlying24]
    simp only [DataW.weightsEach, List.map]
    exact List.mem_append_left _ hn))
  cases hv
  clear hA0 hval0 hsz0 hsz
  refine (law_calls Cx.utfAll_ok W (tabs_of hL) (ags := [.agg [.lt .str l]]) (.cons (.agg _ _ (.cons hrep .nil)) .nil) (fun K hK => ⟨⟨hl1, hl2⟩, hK⟩)).mono fun e W' ⟨he, bel⟩ => ?_
  subst he
  exact ⟨_, rfl, _, _, _, [], _, [], hW', trodAll_mk1 (shut_bool Tryd.underlying4 _), trodAll_mk1 (Below.trod Tryd.laidOut (by kernel_rfl) (of_decide_eq_true (by kernel_rfl)) k0 bel lt0), rfl, bel.frame _, fun h => by cases h⟩
theorem utfAll_holds : Rows.UtfAllSaid :=
  OpenClaim.holds_of_wide 3 Tryd.f3 rfl rfl rfl rfl rfl rfl rfl ⟨rfl, rfl, rfl, rfl, rfl⟩ rfl rfl rfl rfl rfl (by kernel_rfl) Tryd.func3 (by kernel_rfl)
    (of_decide_eq_true (by kernel_rfl)) (by unfold Func.isWrapper; first | (rw [if_pos (by decide +kernel)]; kernel_rfl) | (rw [if_neg (by decide +kernel)]; exact ⟨rfl, rfl⟩))
    (fun os started H enc _ => utfAll_lifted os started H enc)
end Go.Proofs.YtcdpapgkgiifjaaDoor
end
section
namespace Go.Proofs.YtcdpapgkgiifjaaDoor
open Go
theorem utfAll_card : Rows.UtfAllCardSaid :=
  Claim7.holds_tied_plain_at .later [] [.data, .pinned] true (true, "5ab81598d06fbbf33d612bfdde636ec19793534bc8072eba351fc57f91ed825a") true
    utfAll_holds (fun _ h => by cases h) (by kernel_rfl) (fun _ h => by cases h) utfAll_row_tie rfl ⟨rfl, rfl⟩ (by kernel_rfl) rfl
    (fun f fn hf hfn => by
      obtain rfl : f = 3 := Option.some.inj ((show Tryd.prog.funcNamed "beacon/beaconlaw1.UtfAll" = some 3 by kernel_rfl).symm.trans hf) |>.symm
      obtain rfl : fn = Tryd.f3 := (Option.some.inj (Tryd.func3.symm.trans hfn)).symm
      exact ⟨by kernel_rfl, fun j t ht => by
        rw [Tryd.params3] at ht
        have h3 : t = 24 := by
          rcases j with _ | j
          · simpa using ht.symm
          · simp at ht
        subst h3
        exact (show Tryd.prog.wantsStandIn 24 = false by kernel_rfl)⟩)
    (by kernel_rfl)
end Go.Proofs.YtcdpapgkgiifjaaDoor
end
