/- A law is proved out of the functions' contracts. Conditions: none beyond those of the given statement. -/
import Derived.Test.YtcdpapgkgiifjaaDoorT3
set_option linter.unusedVariables false
set_option linter.unusedSimpArgs false
section
namespace Go.Cx
open Go Go.Sx Go.Proofs
set_option maxRecDepth 100000
set_option maxHeartbeats 0
/-! vt: the page's machine -/
def MOR (q : Parse) (l : List Ev) : List Blk := [.flat [.i q.state, .s q.part, .own 3, .s q.inter, .s q.text, .own 4], .dead, .dead, ints q.params, .arr .ev l]
def rtR : Lr := ⟨Parse × List Ev, fun _ => [], fun x => MOR x.1 x.2⟩
def cfgR : Cfg := { cfg1 with rt := some rtR }
def prLp (st : Int) (pt it tx : ByteArray) (ps xs : List Int) (l : List Ev) : Lp := { X := Nat × List Ev, fr := fun x => [(0, .ptr 0 0), (1, .lt (.int .i64) xs), (4, .i x.1)], M := fun x => [.flat [.i st, .s pt, .own 1, .s it, .s tx, .own 3], ints ps, .dead, .arr .ev x.2], inv := fun x => x.1 ≤ xs.length ∧ x.2 = l ++ (pr1 (xs.take x.1)).map toldV, mu := fun x => xs.length - x.1 }
def escI (p : Parse) (b : Int) : Parse × List Vev := if p.state = 1 then escS p b else interS p b
noncomputable def e_next2 : List (FuncId × Con) := (22, nextCon) :: e_feed
theorem e_next2_ok : ConsOk Tryd.prog (look e_next2) := cons_cons e_feed_ok next_ok
noncomputable def rconCon : Con := ⟨[.m, .v], fun ags M K => evFn (env e_next2) Tryd.f67 (cfg1) ags M K⟩
theorem rcon_ok : ConOk Tryd.prog 67 rconCon := fn_ok (env_ok e_next2_ok) mixed Tryd.func67 rfl rconCon (cfg1) (fun _ _ _ h => h)
noncomputable def e_rcon : List (FuncId × Con) := (67, rconCon) :: e_next2
theorem e_rcon_ok : ConsOk Tryd.prog (look e_rcon) := cons_cons e_next2_ok rcon_ok
noncomputable def rtoCon : Con := ⟨[.m, .v], fun ags M K => match ags, M with
  | [.ptr 0 0, .val (.int .i64 s)], [.flat [.val (.int .i64 st), .val (.string pt), .own 1, .val (.string it), .val (.string tx), .own 2], .arr (.int .i64) ps, .arr .ev l] => (True) ∧ ∀ r : Parse × List Ev, r = (P0 s, l) → K (.tup []) (MOR r.1 r.2)
  | _, _ => False⟩
theorem rto_vc (s st : Int) (pt it tx : ByteArray) (ps : List Int) (l : List Ev) (K : AV → List Blk → Prop) : (evFn (env e_rcon) Tryd.f68 (cfgR) [.ptr 0 0, .i s] [.flat [.i st, .s pt, .own 1, .s it, .s tx, .own 2], ints ps, .arr .ev l] K) = (
  ∃ (x : Parse × List Ev), s = x.fst.state ∧ ByteArray.mk #[] = x.fst.part ∧ ByteArray.mk #[] = x.fst.inter ∧ ByteArray.mk #[] = x.fst.text ∧ [] = x.fst.params ∧ l = x.snd
  ∧ Leaf rtR K x) := by kernel_rfl

theorem rto_ok : ConOk Tryd.prog 68 rtoCon := fn_ok2 (env_ok e_rcon_ok) mixed Tryd.func68 rfl rtoCon (by
  intro ags M K h
  unfold rtoCon at h
  simp only at h
  split at h
  · rename_i s st pt it tx ps l
    refine ⟨cfgR, ?_⟩
    show evFn (env e_rcon) _ _ [.ptr 0 0, .i s] [.flat [.i st, .s pt, .own 1, .s it, .s tx, .own 2], ints ps, .arr .ev l] _
    rw [rto_vc]
    obtain ⟨hp, h⟩ := h
    apply Exists.intro (Prod.mk (Parse.mk _ _ _ _ _) _); dsimp only; refine ⟨rfl, rfl, rfl, rfl, rfl, rfl, ?_⟩
    exact h _ rfl
  · exact h.elim)
noncomputable def e_rto : List (FuncId × Con) := (68, rtoCon) :: e_rcon
theorem e_rto_ok : ConsOk Tryd.prog (look e_rto) := cons_cons e_rcon_ok rto_ok
noncomputable def rprCon : Con := ⟨[.m, .r (.int .i64)], fun ags M K => match ags, M with
  | [.ptr 0 0, .lt (.int .i64) xs], [.flat [.val (.int .i64 st), .val (.string pt), .own 1, .val (.string it), .val (.string tx), .own 2], .arr (.int .i64) ps, .arr .ev l] => (l.length ≤ 100000 ∧ xs.length ≤ 1000) ∧ ∀ r : Parse × List Ev, r = (⟨st, pt, ps, it, tx⟩, l ++ (pr1 xs).map toldV) → K (.tup []) (MOR r.1 r.2)
  | _, _ => False⟩
theorem rpr_vc (xs : List Int) (st : Int) (pt it tx : ByteArray) (ps : List Int) (l : List Ev) (K : AV → List Blk → Prop) : (evFn (env e_rto) Tryd.f77 ({ cfgR with lp := fun r => match r with | 1 => some (prLp st pt it tx ps xs l) | _ => none }) [.ptr 0 0, .lt (.int .i64) xs] [.flat [.i st, .s pt, .own 1, .s it, .s tx, .own 2], ints ps, .arr .ev l] K) = (
  ∃ (x0 : Nat × List Ev), (x0.fst ≤ xs.length ∧ x0.snd = l ++ List.map toldV (pr1 (List.take x0.fst xs))) ∧ st = st ∧ pt = pt ∧ it = it ∧ tx = tx ∧ ps = ps ∧ l = x0.snd ∧ 0
  = 0 ∧ xs = xs ∧ (0 : Int) = (↑x0.fst : Int) ∧ ∀ (x : Nat × List Ev), x.fst ≤ xs.length ∧ x.snd = l ++ List.map toldV (pr1 (List.take x.fst xs)) → (decide ((↑x.fst : Int)
  < (↑xs.length : Int)) = true → ((0 : Int) ≤ (↑x.fst : Int) ∧ (↑x.fst : Int) < (↑xs.length : Int)) ∧ ∃ (b : Bool), (decide (gt (Kd.int IntKind.i64) xs (↑x.fst : Int).toNat
  < (128 : Int)) = false → ((0 : Int) ≤ (↑x.fst : Int) ∧ (↑x.fst : Int) < (↑xs.length : Int)) ∧ decide ((159 : Int) < gt (Kd.int IntKind.i64) xs (↑x.fst : Int).toNat) = b)
  ∧ ((decide (gt (Kd.int IntKind.i64) xs (↑x.fst : Int).toNat < (128 : Int)) || b) = true → ((0 : Int) ≤ (↑x.fst : Int) ∧ (↑x.fst : Int) < (↑xs.length : Int)) ∧
  (x.snd.length + [Ev.mk (1 : Int) (gt (Kd.int IntKind.i64) xs (↑x.fst : Int).toNat) [] (ByteArray.mk #[]) (ByteArray.mk #[])].length ≤ 140737488355328 ∧ (x.snd.length +
  [Ev.mk (1 : Int) (gt (Kd.int IntKind.i64) xs (↑x.fst : Int).toNat) [] (ByteArray.mk #[]) (ByteArray.mk #[])].length) * 72 ≤ 140737488355328) ∧ ∃ (x' : Nat × List Ev),
  ((x'.fst ≤ xs.length ∧ x'.snd = l ++ List.map toldV (pr1 (List.take x'.fst xs))) ∧ xs.length - x'.fst < xs.length - x.fst) ∧ st = st ∧ pt = pt ∧ it = it ∧ tx = tx ∧ ps =
  ps ∧ x.snd ++ [Ev.mk (1 : Int) (gt (Kd.int IntKind.i64) xs (↑x.fst : Int).toNat) [] (ByteArray.mk #[]) (ByteArray.mk #[])] = x'.snd ∧ 0 = 0 ∧ xs = xs ∧ IntKind.i64.wrap
  ((↑x.fst : Int) + (1 : Int)) = (↑x'.fst : Int) ∧ True) ∧ ((decide (gt (Kd.int IntKind.i64) xs (↑x.fst : Int).toNat < (128 : Int)) || b) = false → ∃ (x' : Nat × List Ev),
  ((x'.fst ≤ xs.length ∧ x'.snd = l ++ List.map toldV (pr1 (List.take x'.fst xs))) ∧ xs.length - x'.fst < xs.length - x.fst) ∧ st = st ∧ pt = pt ∧ it = it ∧ tx = tx ∧ ps =
  ps ∧ x.snd = x'.snd ∧ 0 = 0 ∧ xs = xs ∧ IntKind.i64.wrap ((↑x.fst : Int) + (1 : Int)) = (↑x'.fst : Int) ∧ True)) ∧ (decide ((↑x.fst : Int) < (↑xs.length : Int)) = false →
  ∃ (x_1 : Parse × List Ev), st = x_1.fst.state ∧ pt = x_1.fst.part ∧ it = x_1.fst.inter ∧ tx = x_1.fst.text ∧ ps = x_1.fst.params ∧ x.snd = x_1.snd ∧ Leaf rtR K x_1)) := by kernel_rfl

theorem rpr_ok : ConOk Tryd.prog 77 rprCon := fn_ok2 (env_ok e_rto_ok) mixed Tryd.func77 rfl rprCon (by
  intro ags M K h
  unfold rprCon at h
  simp only at h
  split at h
  · rename_i xs st pt it tx ps l
    refine ⟨{ cfgR with lp := fun r => match r with | 1 => some (prLp st pt it tx ps xs l) | _ => none }, ?_⟩
    show evFn (env e_rto) _ _ [.ptr 0 0, .lt (.int .i64) xs] [.flat [.i st, .s pt, .own 1, .s it, .s tx, .own 2], ints ps, .arr .ev l] _
    rw [rpr_vc]
    obtain ⟨hp, h⟩ := h
    obtain ⟨p1, p2⟩ := hp
    refine ⟨(0, l), ⟨Nat.zero_le _, by simp [pr1]⟩, rfl, rfl, rfl, rfl, rfl, rfl, rfl, rfl, rfl, ?_⟩
    rintro ⟨i, ev⟩ ⟨q1, q2⟩
    dsimp only at q1 q2 ⊢
    have hev : ev.length ≤ l.length + xs.length := by
      rw [q2, List.length_append, List.length_map]
      have := pr1_len (List.take i xs)
      rw [List.length_take] at this
      omega
    refine ⟨fun h3 => ?_, fun h3 => ?_⟩
    · simp only [strBytes_size, ByteArray.size_append, List.length_append, List.length_cons, List.length_nil, Nat.zero_add, Bool.and_eq_true, Bool.or_eq_true, Bool.and_eq_false_iff, Bool.or_eq_false_iff, decide_eq_true_eq, decide_eq_false_iff_not, Bool.not_eq_true', Bool.not_eq_eq_eq_not, Bool.not_true, Bool.not_false, true_and, and_true, Int.toNat_natCast, not_true_eq_false, not_false_eq_true, ne_eq, eq_self] at h3
      have hi : i < xs.length := by omega
      have hw : IntKind.i64.wrap ((i : Int) + 1) = ((i + 1 : Nat) : Int) := by rw [w64 (by omega)]; omega
      have hs := pr1_snoc hi
      rw [Int.toNat_natCast, hw]
      refine ⟨⟨by omega, by omega⟩, _, fun _ => ⟨⟨by omega, by omega⟩, rfl⟩, fun h4 => ⟨⟨by omega, by omega⟩, ⟨by simp; omega, by simp; omega⟩, (i + 1, ev ++ [⟨1, gt (.int .i64) xs i, [], E0, E0⟩]), ⟨⟨by show i + 1 ≤ _; omega, ?_⟩, by show _ - (i + 1) < _; omega⟩, ?_⟩,
        fun h4 => ⟨(i + 1, ev), ⟨⟨by show i + 1 ≤ _; omega, ?_⟩, by show _ - (i + 1) < _; omega⟩, ?_⟩⟩
      · show ev ++ _ = l ++ (pr1 (List.take (i + 1) _)).map toldV
        have hk : keepR (gt (.int .i64) xs i) = true := by
          simp only [strBytes_size, ByteArray.size_append, List.length_append, List.length_cons, List.length_nil, Nat.zero_add, Bool.and_eq_true, Bool.or_eq_true, Bool.and_eq_false_iff, Bool.or_eq_false_iff, decide_eq_true_eq, decide_eq_false_iff_not, Bool.not_eq_true', Bool.not_eq_eq_eq_not, Bool.not_true, Bool.not_false, true_and, and_true, Int.toNat_natCast, not_true_eq_false, not_false_eq_true, ne_eq, eq_self] at h4
          simp only [keepR, decide_eq_true_eq]; exact h4
        rw [hs, if_pos hk, q2, List.map_append, List.append_assoc]; rfl
      · repeat (refine ⟨rfl, ?_⟩)
        trivial
      · show ev = l ++ (pr1 (List.take (i + 1) _)).map toldV
        have hk : ¬ keepR (gt (.int .i64) xs i) = true := by
          simp only [strBytes_size, ByteArray.size_append, List.length_append, List.length_cons, List.length_nil, Nat.zero_add, Bool.and_eq_true, Bool.or_eq_true, Bool.and_eq_false_iff, Bool.or_eq_false_iff, decide_eq_true_eq, decide_eq_false_iff_not, Bool.not_eq_true', Bool.not_eq_eq_eq_not, Bool.not_true, Bool.not_false, true_and, and_true, Int.toNat_natCast, not_true_eq_false, not_false_eq_true, ne_eq, eq_self] at h4
          intro hq
          rcases of_decide_eq_true hq with hq | hq
          · exact h4.1 hq
          · exact h4.2 hq
        rw [hs, if_neg hk, q2, List.append_nil]
      · repeat (refine ⟨rfl, ?_⟩)
        trivial
    · simp only [strBytes_size, ByteArray.size_append, List.length_append, List.length_cons, List.length_nil, Nat.zero_add, Bool.and_eq_true, Bool.or_eq_true, Bool.and_eq_false_iff, Bool.or_eq_false_iff, decide_eq_true_eq, decide_eq_false_iff_not, Bool.not_eq_true', Bool.not_eq_eq_eq_not, Bool.not_true, Bool.not_false, true_and, and_true, Int.toNat_natCast, not_true_eq_false, not_false_eq_true, ne_eq, eq_self] at h3
      have hi : i = xs.length := by omega
      subst hi
      rw [List.take_length] at q2
      apply Exists.intro (Prod.mk (Parse.mk _ _ _ _ _) _); dsimp only; refine ⟨rfl, rfl, rfl, rfl, rfl, rfl, ?_⟩
      refine h _ ?_
      rw [q2]
  · exact h.elim)
noncomputable def e_rpr : List (FuncId × Con) := (77, rprCon) :: e_rto
theorem e_rpr_ok : ConsOk Tryd.prog (look e_rpr) := cons_cons e_rto_ok rpr_ok
noncomputable def rfl1Con : Con := ⟨[.m], fun ags M K => evFn (env e_rpr) Tryd.f66 (cfg1) ags M K⟩
theorem rfl1_ok : ConOk Tryd.prog 66 rfl1Con := fn_ok (env_ok e_rpr_ok) mixed Tryd.func66 rfl rfl1Con (cfg1) (fun _ _ _ h => h)
noncomputable def e_rfl1 : List (FuncId × Con) := (66, rfl1Con) :: e_rpr
theorem e_rfl1_ok : ConsOk Tryd.prog (look e_rfl1) := cons_cons e_rpr_ok rfl1_ok
noncomputable def rgrCon : Con := ⟨[.m, .v], fun ags M K => match ags, M with
  | [.ptr 0 0, .val (.int .u8 b)], [.flat [.val (.int .i64 st), .val (.string pt), .own 1, .val (.string it), .val (.string tx), .own 2], .arr (.int .i64) ps, .arr .ev l] => (l.length ≤ 90000 ∧ 0 ≤ b ∧ b < 256 ∧ (pt = E0 ∨ partS pt = true)) ∧ ∀ r : Parse × List Ev, r = ((groundS ⟨st, pt, ps, it, tx⟩ b).1, l ++ (groundS ⟨st, pt, ps, it, tx⟩ b).2.map toldV) → K (.tup []) (MOR r.1 r.2)
  | _, _ => False⟩
theorem rgr_vc (b st : Int) (pt it tx : ByteArray) (ps : List Int) (l : List Ev) (K : AV → List Blk → Prop) : (evFn (env e_rfl1) Tryd.f69 (cfgR) [.ptr 0 0, .int .u8 b] [.flat [.i st, .s pt, .own 1, .s it, .s tx, .own 2], ints ps, .arr .ev l] K) = (
  ∃ (b_1 : Bool), (decide (b < (32 : Int)) = false → decide (b = (127 : Int)) = b_1) ∧ ((decide (b < (32 : Int)) || b_1) = true → ((!decide (pt = ByteArray.mk #[])) = true
  → (l.length ≤ 100000 ∧ 1 ≤ 1000) ∧ ∀ (r : Parse × List Ev), r = (Parse.mk st pt ps it tx, l ++ List.map toldV (pr1 [(65533 : Int)])) → (decide (b < (32 : Int)) = true →
  (r.snd.length + [Ev.mk (2 : Int) (IntKind.i64.wrap b) [] (ByteArray.mk #[]) (ByteArray.mk #[])].length ≤ 140737488355328 ∧ (r.snd.length + [Ev.mk (2 : Int)
  (IntKind.i64.wrap b) [] (ByteArray.mk #[]) (ByteArray.mk #[])].length) * 72 ≤ 140737488355328) ∧ ∃ (x : Parse × List Ev), r.fst.state = x.fst.state ∧ ByteArray.mk #[] =
  x.fst.part ∧ r.fst.inter = x.fst.inter ∧ r.fst.text = x.fst.text ∧ r.fst.params = x.fst.params ∧ r.snd ++ [Ev.mk (2 : Int) (IntKind.i64.wrap b) [] (ByteArray.mk #[])
  (ByteArray.mk #[])] = x.snd ∧ Leaf rtR K x) ∧ (decide (b < (32 : Int)) = false → ∃ (x : Parse × List Ev), r.fst.state = x.fst.state ∧ ByteArray.mk #[] = x.fst.part ∧
  r.fst.inter = x.fst.inter ∧ r.fst.text = x.fst.text ∧ r.fst.params = x.fst.params ∧ r.snd = x.snd ∧ Leaf rtR K x)) ∧ ((!decide (pt = ByteArray.mk #[])) = false → (decide
  (b < (32 : Int)) = true → (l.length + [Ev.mk (2 : Int) (IntKind.i64.wrap b) [] (ByteArray.mk #[]) (ByteArray.mk #[])].length ≤ 140737488355328 ∧ (l.length + [Ev.mk (2 :
  Int) (IntKind.i64.wrap b) [] (ByteArray.mk #[]) (ByteArray.mk #[])].length) * 72 ≤ 140737488355328) ∧ ∃ (x : Parse × List Ev), st = x.fst.state ∧ pt = x.fst.part ∧ it =
  x.fst.inter ∧ tx = x.fst.text ∧ ps = x.fst.params ∧ l ++ [Ev.mk (2 : Int) (IntKind.i64.wrap b) [] (ByteArray.mk #[]) (ByteArray.mk #[])] = x.snd ∧ Leaf rtR K x) ∧ (decide
  (b < (32 : Int)) = false → ∃ (x : Parse × List Ev), st = x.fst.state ∧ pt = x.fst.part ∧ it = x.fst.inter ∧ tx = x.fst.text ∧ ps = x.fst.params ∧ l = x.snd ∧ Leaf rtR K
  x))) ∧ ((decide (b < (32 : Int)) || b_1) = false → ((pt = ByteArray.mk #[] ∨ partS pt = true) ∧ (0 : Int) ≤ b ∧ b < (256 : Int)) ∧ ∀ (l_1 : List Int) (t : ByteArray),
  (l_1, t) = stepS pt b → (l.length ≤ 100000 ∧ l_1.length ≤ 1000) ∧ ∀ (r : Parse × List Ev), r = (Parse.mk st t ps it tx, l ++ List.map toldV (pr1 l_1)) → ∃ (x : Parse ×
  List Ev), r.fst.state = x.fst.state ∧ r.fst.part = x.fst.part ∧ r.fst.inter = x.fst.inter ∧ r.fst.text = x.fst.text ∧ r.fst.params = x.fst.params ∧ r.snd = x.snd ∧ Leaf
  rtR K x)) := by kernel_rfl

theorem rgr_ok : ConOk Tryd.prog 69 rgrCon := fn_ok2 (env_ok e_rfl1_ok) mixed Tryd.func69 rfl rgrCon (by
  intro ags M K h
  unfold rgrCon at h
  simp only at h
  split at h
  · rename_i b st pt it tx ps l
    refine ⟨cfgR, ?_⟩
    show evFn (env e_rfl1) _ _ [.ptr 0 0, .int .u8 b] [.flat [.i st, .s pt, .own 1, .s it, .s tx, .own 2], ints ps, .arr .ev l] _
    rw [rgr_vc]
    obtain ⟨hp, h⟩ := h
    obtain ⟨p1, p2, p3, p4⟩ := hp
    have hpr : List.map toldV (pr1 [65533]) = [⟨1, 65533, [], E0, E0⟩] := by kernel_rfl
    refine ⟨_, fun _ => rfl, fun h1 => ⟨fun h2 => ⟨⟨by omega, by omega⟩, ?_⟩, fun h2 => ?_⟩, fun h1 => ⟨⟨p4, p2, p3⟩, fun l1 t e => ?_⟩⟩
    · rintro _ rfl
      dsimp only
      rw [hpr]
      refine ⟨fun h3 => ⟨⟨by simp; omega, by simp; omega⟩, ?_⟩, fun h3 => ?_⟩
      all_goals (apply Exists.intro (Prod.mk (Parse.mk _ _ _ _ _) _); dsimp only; refine ⟨rfl, rfl, rfl, rfl, rfl, rfl, ?_⟩; refine h _ ?_; clear h; simp only [strBytes_size, ByteArray.size_append, List.length_append, List.length_cons, List.length_nil, Nat.zero_add, Bool.and_eq_true, Bool.or_eq_true, Bool.and_eq_false_iff, Bool.or_eq_false_iff, decide_eq_true_eq, decide_eq_false_iff_not, Bool.not_eq_true', Bool.not_eq_eq_eq_not, Bool.not_true, Bool.not_false, true_and, and_true, Int.toNat_natCast, not_true_eq_false, not_false_eq_true, ne_eq, eq_self] at h1 h2 h3)
      · rw [groundS, if_pos h3, flushE_at, if_neg h2]
        simp [toldV, E0]
      · rw [groundS, if_neg h3, if_pos (by omega), flushE_at, if_neg h2]
        simp [toldV]
    · refine ⟨fun h3 => ⟨⟨by simp; omega, by simp; omega⟩, ?_⟩, fun h3 => ?_⟩
      all_goals (apply Exists.intro (Prod.mk (Parse.mk _ _ _ _ _) _); dsimp only; refine ⟨rfl, rfl, rfl, rfl, rfl, rfl, ?_⟩; refine h _ ?_; clear h; simp only [strBytes_size, ByteArray.size_append, List.length_append, List.length_cons, List.length_nil, Nat.zero_add, Bool.and_eq_true, Bool.or_eq_true, Bool.and_eq_false_iff, Bool.or_eq_false_iff, decide_eq_true_eq, decide_eq_false_iff_not, Bool.not_eq_true', Bool.not_eq_eq_eq_not, Bool.not_true, Bool.not_false, true_and, and_true, Int.toNat_natCast, not_true_eq_false, not_false_eq_true, ne_eq, eq_self] at h1 h2 h3; subst h2)
      · rw [groundS, if_pos h3, flushE_at, if_pos rfl]
        simp [toldV, E0]
      · rw [groundS, if_neg h3, if_pos (by omega), flushE_at, if_pos rfl]
        simp [E0]
    · have e1 : (stepS pt b).1 = l1 := by rw [← e]
      have e2 : (stepS pt b).2 = t := by rw [← e]
      have hlen := (stepS_len pt b).1
      refine ⟨⟨by omega, by rw [← e1]; omega⟩, ?_⟩
      rintro _ rfl
      apply Exists.intro (Prod.mk (Parse.mk _ _ _ _ _) _); dsimp only; refine ⟨rfl, rfl, rfl, rfl, rfl, rfl, ?_⟩
      refine h _ ?_
      simp only [strBytes_size, ByteArray.size_append, List.length_append, List.length_cons, List.length_nil, Nat.zero_add, Bool.and_eq_true, Bool.or_eq_true, Bool.and_eq_false_iff, Bool.or_eq_false_iff, decide_eq_true_eq, decide_eq_false_iff_not, Bool.not_eq_true', Bool.not_eq_eq_eq_not, Bool.not_true, Bool.not_false, true_and, and_true, Int.toNat_natCast, not_true_eq_false, not_false_eq_true, ne_eq, eq_self] at h1
      rw [groundS, if_neg h1.1, if_neg h1.2, e1, e2]
  · exact h.elim)
noncomputable def e_rgr : List (FuncId × Con) := (69, rgrCon) :: e_rfl1
theorem e_rgr_ok : ConsOk Tryd.prog (look e_rgr) := cons_cons e_rfl1_ok rgr_ok
theorem stok_low {p : Parse} (h : StOk p) (hs : p.state = 1 ∨ p.state = 2) : p.part = E0 ∧ p.params.length = 0 ∧ p.text = E0 ∧ (p.state = 1 → p.inter = E0) := by
  obtain ⟨e1, e2, e3, e4, e5, e6, e7, e8, e9⟩ := h
  refine ⟨Classical.byContradiction fun e => ?_, Classical.byContradiction fun e => ?_, Classical.byContradiction fun e => ?_, fun e => e3.2.1 (by omega) (by omega)⟩
  · have := (e2 e).1; omega
  · have := e5 e; omega
  · have := e7 e; omega
theorem E0_sz : E0.size = 0 := rfl
theorem E0_app (s : ByteArray) : E0 ++ s = s := by
  apply ByteArray.ext
  simp [ByteArray.data_append]
noncomputable def rescCon : Con := ⟨[.m, .v], fun ags M K => match ags, M with
  | [.ptr 0 0, .val (.int .u8 b)], [.flat [.val (.int .i64 st), .val (.string pt), .own 1, .val (.string it), .val (.string tx), .own 2], .arr (.int .i64) ps, .arr .ev l] => (l.length ≤ 90000 ∧ 0 ≤ b ∧ b < 256 ∧ StOk ⟨st, pt, ps, it, tx⟩ ∧ (st = 1 ∨ st = 2)) ∧ ∀ r : Parse × List Ev, r = ((escI ⟨st, pt, ps, it, tx⟩ b).1, l ++ (escI ⟨st, pt, ps, it, tx⟩ b).2.map toldV) → K (.tup []) (MOR r.1 r.2)
  | _, _ => False⟩
theorem resc_vc (b st : Int) (pt it tx : ByteArray) (ps : List Int) (l : List Ev) (K : AV → List Blk → Prop) : (evFn (env e_rgr) Tryd.f70 (cfgR) [.ptr 0 0, .int .u8 b] [.flat [.i st, .s pt, .own 1, .s it, .s tx, .own 2], ints ps, .arr .ev l] K) = (
  (decide (b < (32 : Int)) = true → (l.length + [Ev.mk (2 : Int) (IntKind.i64.wrap b) [] (ByteArray.mk #[]) (ByteArray.mk #[])].length ≤ 140737488355328 ∧ (l.length +
  [Ev.mk (2 : Int) (IntKind.i64.wrap b) [] (ByteArray.mk #[]) (ByteArray.mk #[])].length) * 72 ≤ 140737488355328) ∧ ∃ (x : Parse × List Ev), st = x.fst.state ∧ pt =
  x.fst.part ∧ it = x.fst.inter ∧ tx = x.fst.text ∧ ps = x.fst.params ∧ l ++ [Ev.mk (2 : Int) (IntKind.i64.wrap b) [] (ByteArray.mk #[]) (ByteArray.mk #[])] = x.snd ∧ Leaf
  rtR K x) ∧ (decide (b < (32 : Int)) = false → (decide (b ≤ (47 : Int)) = true → (decide ((↑it.size : Int) < (3 : Int)) = true → it.size + (strBytes [b]).size ≤
  4611686018427387904 ∧ ∃ (x : Parse × List Ev), (2 : Int) = x.fst.state ∧ pt = x.fst.part ∧ it ++ strBytes [b] = x.fst.inter ∧ tx = x.fst.text ∧ ps = x.fst.params ∧ l =
  x.snd ∧ Leaf rtR K x) ∧ (decide ((↑it.size : Int) < (3 : Int)) = false → ∃ (x : Parse × List Ev), (2 : Int) = x.fst.state ∧ pt = x.fst.part ∧ it = x.fst.inter ∧ tx =
  x.fst.text ∧ ps = x.fst.params ∧ l = x.snd ∧ Leaf rtR K x)) ∧ (decide (b ≤ (47 : Int)) = false → (decide (b = (127 : Int)) = true → ∃ (x : Parse × List Ev), st =
  x.fst.state ∧ pt = x.fst.part ∧ it = x.fst.inter ∧ tx = x.fst.text ∧ ps = x.fst.params ∧ l = x.snd ∧ Leaf rtR K x) ∧ (decide (b = (127 : Int)) = false → (decide ((127 :
  Int) < b) = true → True ∧ ∀ (r : Parse × List Ev), r = (P0 (0 : Int), l) → ∃ (x : Parse × List Ev), r.fst.state = x.fst.state ∧ r.fst.part = x.fst.part ∧ r.fst.inter =
  x.fst.inter ∧ r.fst.text = x.fst.text ∧ r.fst.params = x.fst.params ∧ r.snd = x.snd ∧ Leaf rtR K x) ∧ (decide ((127 : Int) < b) = false → ∃ (b_1 : Bool), (decide (st = (1
  : Int)) = true → decide (b = (91 : Int)) = b_1) ∧ ((decide (st = (1 : Int)) && b_1) = true → True ∧ ∀ (r : Parse × List Ev), r = (P0 (3 : Int), l) → ∃ (x : Parse × List
  Ev), r.fst.state = x.fst.state ∧ r.fst.part = x.fst.part ∧ r.fst.inter = x.fst.inter ∧ r.fst.text = x.fst.text ∧ r.fst.params = x.fst.params ∧ r.snd = x.snd ∧ Leaf rtR K
  x) ∧ ((decide (st = (1 : Int)) && b_1) = false → ∃ (b_2 : Bool), (decide (st = (1 : Int)) = true → decide (b = (93 : Int)) = b_2) ∧ ((decide (st = (1 : Int)) && b_2) =
  true → True ∧ ∀ (r : Parse × List Ev), r = (P0 (5 : Int), l) → ∃ (x : Parse × List Ev), r.fst.state = x.fst.state ∧ r.fst.part = x.fst.part ∧ r.fst.inter = x.fst.inter ∧
  r.fst.text = x.fst.text ∧ r.fst.params = x.fst.params ∧ r.snd = x.snd ∧ Leaf rtR K x) ∧ ((decide (st = (1 : Int)) && b_2) = false → ∃ (b_3 : Bool), (decide (st = (1 :
  Int)) = true → ∃ (b_4 : Bool), (decide (b = (80 : Int)) = false → decide (b = (88 : Int)) = b_4) ∧ ∃ (b_5 : Bool), ((decide (b = (80 : Int)) || b_4) = false → decide (b =
  (94 : Int)) = b_5) ∧ ∃ (b_6 : Bool), ((decide (b = (80 : Int)) || b_4 || b_5) = false → decide (b = (95 : Int)) = b_6) ∧ (decide (b = (80 : Int)) || b_4 || b_5 || b_6) =
  b_3) ∧ ((decide (st = (1 : Int)) && b_3) = true → True ∧ ∀ (r : Parse × List Ev), r = (P0 (6 : Int), l) → ∃ (x : Parse × List Ev), r.fst.state = x.fst.state ∧ r.fst.part
  = x.fst.part ∧ r.fst.inter = x.fst.inter ∧ r.fst.text = x.fst.text ∧ r.fst.params = x.fst.params ∧ r.snd = x.snd ∧ Leaf rtR K x) ∧ ((decide (st = (1 : Int)) && b_3) =
  false → (l.length + [Ev.mk (3 : Int) (IntKind.i64.wrap b) [] it (ByteArray.mk #[])].length ≤ 140737488355328 ∧ (l.length + [Ev.mk (3 : Int) (IntKind.i64.wrap b) [] it
  (ByteArray.mk #[])].length) * 72 ≤ 140737488355328) ∧ True ∧ ∀ (r : Parse × List Ev), r = (P0 (0 : Int), l ++ [Ev.mk (3 : Int) (IntKind.i64.wrap b) [] it (ByteArray.mk
  #[])]) → ∃ (x : Parse × List Ev), r.fst.state = x.fst.state ∧ r.fst.part = x.fst.part ∧ r.fst.inter = x.fst.inter ∧ r.fst.text = x.fst.text ∧ r.fst.params = x.fst.params
  ∧ r.snd = x.snd ∧ Leaf rtR K x)))))))) := by kernel_rfl

theorem resc_ok : ConOk Tryd.prog 70 rescCon := fn_ok2 (env_ok e_rgr_ok) mixed Tryd.func70 rfl rescCon (by
  intro ags M K h
  unfold rescCon at h
  simp only at h
  split at h
  · rename_i b st pt it tx ps l
    refine ⟨cfgR, ?_⟩
    show evFn (env e_rgr) _ _ [.ptr 0 0, .int .u8 b] [.flat [.i st, .s pt, .own 1, .s it, .s tx, .own 2], ints ps, .arr .ev l] _
    rw [resc_vc]
    obtain ⟨hp, h⟩ := h
    obtain ⟨p1, p2, p3, p4, p5⟩ := hp
    obtain ⟨g1, g2, g3, g4⟩ := stok_low p4 p5
    dsimp only at g1 g2 g3 g4
    have hps : ps = [] := List.length_eq_zero_iff.1 g2
    subst g1 hps g3
    have hsz : it.size ≤ 3 := p4.2.2.1.2.2.1
    rcases p5 with rfl | rfl
    · have hit : it = E0 := g4 rfl
      subst hit
      clear p4 g2 g4 hsz
      rw [E0_sz, E0_app]
      repeat' first
        | (apply Exists.intro (Prod.mk (Parse.mk _ _ _ _ _) _); dsimp only; refine ⟨rfl, rfl, rfl, rfl, rfl, rfl, ?_⟩; refine h _ ?_)
        | assumption
        | exact rfl
        | (refine ⟨_, fun _ => rfl, ?_⟩)
        | (rintro _ rfl; try dsimp only)
        | apply And.intro
        | intro _
        | apply Exists.intro
      all_goals (clear h; try simp only [strBytes_size, ByteArray.size_append, List.length_append, List.length_cons, List.length_nil, Nat.zero_add, Bool.and_eq_true, Bool.or_eq_true, Bool.and_eq_false_iff, Bool.or_eq_false_iff, decide_eq_true_eq, decide_eq_false_iff_not, Bool.not_eq_true', Bool.not_eq_eq_eq_not, Bool.not_true, Bool.not_false, true_and, and_true, Int.toNat_natCast, not_true_eq_false, not_false_eq_true, ne_eq, eq_self, false_or, or_false] at *)
      all_goals first
        | omega
        | ((simp only [escI, escS]; (try dsimp only); repeat' split) <;> first | rfl | (exact absurd trivial (by assumption)) | (simp [strBytes, toldV, E0_app]; done) | (exfalso; omega))
    · clear p4 g2 g4
      repeat' first
        | (apply Exists.intro (Prod.mk (Parse.mk _ _ _ _ _) _); dsimp only; refine ⟨rfl, rfl, rfl, rfl, rfl, rfl, ?_⟩; refine h _ ?_)
        | assumption
        | exact rfl
        | (refine ⟨_, fun _ => rfl, ?_⟩)
        | (rintro _ rfl; try dsimp only)
        | apply And.intro
        | intro _
        | apply Exists.intro
      all_goals (clear h; try simp only [strBytes_size, ByteArray.size_append, List.length_append, List.length_cons, List.length_nil, Nat.zero_add, Bool.and_eq_true, Bool.or_eq_true, Bool.and_eq_false_iff, Bool.or_eq_false_iff, decide_eq_true_eq, decide_eq_false_iff_not, Bool.not_eq_true', Bool.not_eq_eq_eq_not, Bool.not_true, Bool.not_false, true_and, and_true, Int.toNat_natCast, not_true_eq_false, not_false_eq_true, ne_eq, eq_self, false_or, or_false] at *)
      all_goals first
        | omega
        | ((simp only [escI, interS]; (try dsimp only); repeat' split) <;> first | rfl | (exact absurd trivial (by assumption)) | (simp [strBytes, toldV, E0_app]; done) | (exfalso; omega))
  · exact h.elim)
noncomputable def e_resc : List (FuncId × Con) := (70, rescCon) :: e_rgr
theorem e_resc_ok : ConsOk Tryd.prog (look e_resc) := cons_cons e_rgr_ok resc_ok
theorem digit_eq {v b : Int} (h0 : -1 ≤ v) (h1 : v ≤ 9999) (h2 : 48 ≤ b) (h3 : b ≤ 57) : IntKind.i64.wrap (IntKind.i64.wrap (10 * max 0 v) + IntKind.i64.wrap (IntKind.u8.wrap (b - 48))) = max 0 v * 10 + (b - 48) := by
  have e1 : IntKind.u8.wrap (b - 48) = b - 48 := by simp [IntKind.wrap, IntKind.bits, IntKind.signed]; omega
  have e2 : IntKind.i64.wrap (b - 48) = b - 48 := w64 (by omega)
  have e3 : IntKind.i64.wrap (10 * max 0 v) = 10 * max 0 v := w64 (by omega)
  have e4 : IntKind.i64.wrap (10 * max 0 v + (b - 48)) = max 0 v * 10 + (b - 48) := by rw [w64 (by omega)]; omega
  rw [e1, e2, e3, e4]
noncomputable def rcsiCon : Con := ⟨[.m, .v], fun ags M K => match ags, M with
  | [.ptr 0 0, .val (.int .u8 b)], [.flat [.val (.int .i64 st), .val (.string pt), .own 1, .val (.string it), .val (.string tx), .own 2], .arr (.int .i64) ps, .arr .ev l] => (l.length ≤ 90000 ∧ 0 ≤ b ∧ b < 256 ∧ StOk ⟨st, pt, ps, it, tx⟩ ∧ st = 3) ∧ ∀ r : Parse × List Ev, r = ((csiS ⟨st, pt, ps, it, tx⟩ b).1, l ++ (csiS ⟨st, pt, ps, it, tx⟩ b).2.map toldV) → K (.tup []) (MOR r.1 r.2)
  | _, _ => False⟩
theorem rcsi_vc (b st : Int) (pt it tx : ByteArray) (ps : List Int) (l : List Ev) (K : AV → List Blk → Prop) : (evFn (env e_resc) Tryd.f71 ({ cfgR with fz := [47], jn := fun r => match r with | 1 => some 5 | _ => none }) [.ptr 0 0, .int .u8 b] [.flat [.i st, .s pt, .own 1, .s it, .s tx, .own 2], ints ps, .arr .ev l] K) = (
  ∃ (c : Bool), ((decide ((0 : Int) < (↑it.size : Int)) = true → ((0 : Int) ≤ IntKind.i64.wrap ((↑it.size : Int) - (1 : Int)) ∧ IntKind.i64.wrap ((↑it.size : Int) - (1 :
  Int)) < (↑it.size : Int)) ∧ Same [Blk.flat [AV.val (Value.int IntKind.i64 st), AV.val (Value.string pt), AV.own 1, AV.val (Value.string it), AV.val (Value.string tx),
  AV.own 2], Blk.arr (Kd.int IntKind.i64) ps, Blk.arr Kd.ev l] [Blk.flat [AV.val (Value.int IntKind.i64 st), AV.val (Value.string pt), AV.own 1, AV.val (Value.string it),
  AV.val (Value.string tx), AV.own 2], Blk.arr (Kd.int IntKind.i64) ps, Blk.arr Kd.ev l] ∧ decide (bt it (IntKind.i64.wrap ((↑it.size : Int) - (1 : Int))).toNat ≤ (47 :
  Int)) = c) ∧ (decide ((0 : Int) < (↑it.size : Int)) = false → Same [Blk.flat [AV.val (Value.int IntKind.i64 st), AV.val (Value.string pt), AV.own 1, AV.val (Value.string
  it), AV.val (Value.string tx), AV.own 2], Blk.arr (Kd.int IntKind.i64) ps, Blk.arr Kd.ev l] [Blk.flat [AV.val (Value.int IntKind.i64 st), AV.val (Value.string pt), AV.own
  1, AV.val (Value.string it), AV.val (Value.string tx), AV.own 2], Blk.arr (Kd.int IntKind.i64) ps, Blk.arr Kd.ev l] ∧ false = c)) ∧ (decide (b < (32 : Int)) = true →
  (l.length + [Ev.mk (2 : Int) (IntKind.i64.wrap b) [] (ByteArray.mk #[]) (ByteArray.mk #[])].length ≤ 140737488355328 ∧ (l.length + [Ev.mk (2 : Int) (IntKind.i64.wrap b)
  [] (ByteArray.mk #[]) (ByteArray.mk #[])].length) * 72 ≤ 140737488355328) ∧ ∃ (x : Parse × List Ev), st = x.fst.state ∧ pt = x.fst.part ∧ it = x.fst.inter ∧ tx =
  x.fst.text ∧ ps = x.fst.params ∧ l ++ [Ev.mk (2 : Int) (IntKind.i64.wrap b) [] (ByteArray.mk #[]) (ByteArray.mk #[])] = x.snd ∧ Leaf rtR K x) ∧ (decide (b < (32 : Int)) =
  false → (decide (b ≤ (47 : Int)) = true → (decide ((↑it.size : Int) = (3 : Int)) = true → True ∧ ∀ (r : Parse × List Ev), r = (P0 (4 : Int), l) → ∃ (x : Parse × List Ev),
  r.fst.state = x.fst.state ∧ r.fst.part = x.fst.part ∧ r.fst.inter = x.fst.inter ∧ r.fst.text = x.fst.text ∧ r.fst.params = x.fst.params ∧ r.snd = x.snd ∧ Leaf rtR K x) ∧
  (decide ((↑it.size : Int) = (3 : Int)) = false → it.size + (strBytes [b]).size ≤ 4611686018427387904 ∧ ∃ (x : Parse × List Ev), st = x.fst.state ∧ pt = x.fst.part ∧ it ++
  strBytes [b] = x.fst.inter ∧ tx = x.fst.text ∧ ps = x.fst.params ∧ l = x.snd ∧ Leaf rtR K x)) ∧ (decide (b ≤ (47 : Int)) = false → ∃ (b_1 : Bool), (decide (b ≤ (63 :
  Int)) = true → c = b_1) ∧ ((decide (b ≤ (63 : Int)) && b_1) = true → True ∧ ∀ (r : Parse × List Ev), r = (P0 (4 : Int), l) → ∃ (x : Parse × List Ev), r.fst.state =
  x.fst.state ∧ r.fst.part = x.fst.part ∧ r.fst.inter = x.fst.inter ∧ r.fst.text = x.fst.text ∧ r.fst.params = x.fst.params ∧ r.snd = x.snd ∧ Leaf rtR K x) ∧ ((decide (b ≤
  (63 : Int)) && b_1) = false → (decide (b ≤ (57 : Int)) = true → (decide ((↑ps.length : Int) = (0 : Int)) = true → ((0 : Int) ≤ IntKind.i64.wrap ((1 : Int) - (1 : Int)) ∧
  IntKind.i64.wrap ((1 : Int) - (1 : Int)) < (↑1 : Int)) ∧ 0 < 1 ∧ ((0 : Int) ≤ IntKind.i64.wrap ((1 : Int) - (1 : Int)) ∧ IntKind.i64.wrap ((1 : Int) - (1 : Int)) < (↑1 :
  Int)) ∧ 0 < 1 ∧ ∃ (x : Parse × List Ev), st = x.fst.state ∧ pt = x.fst.part ∧ it = x.fst.inter ∧ tx = x.fst.text ∧ [(-1 : Int)].set 0 (min (9999 : Int) (IntKind.i64.wrap
  (IntKind.i64.wrap ((10 : Int) * max (0 : Int) (gt (Kd.int IntKind.i64) [(-1 : Int)] 0)) + IntKind.i64.wrap (IntKind.u8.wrap (b - (48 : Int)))))) = x.fst.params ∧ l =
  x.snd ∧ Leaf rtR K x) ∧ (decide ((↑ps.length : Int) = (0 : Int)) = false → ((0 : Int) ≤ IntKind.i64.wrap ((↑ps.length : Int) - (1 : Int)) ∧ IntKind.i64.wrap ((↑ps.length
  : Int) - (1 : Int)) < (↑ps.length : Int)) ∧ (IntKind.i64.wrap ((↑ps.length : Int) - (1 : Int))).toNat < ps.length ∧ ((0 : Int) ≤ IntKind.i64.wrap ((↑ps.length : Int) - (1
  : Int)) ∧ IntKind.i64.wrap ((↑ps.length : Int) - (1 : Int)) < (↑ps.length : Int)) ∧ (IntKind.i64.wrap ((↑ps.length : Int) - (1 : Int))).toNat < ps.length ∧ ∃ (x : Parse ×
  List Ev), st = x.fst.state ∧ pt = x.fst.part ∧ it = x.fst.inter ∧ tx = x.fst.text ∧ ps.set (IntKind.i64.wrap ((↑ps.length : Int) - (1 : Int))).toNat (min (9999 : Int)
  (IntKind.i64.wrap (IntKind.i64.wrap ((10 : Int) * max (0 : Int) (gt (Kd.int IntKind.i64) ps (IntKind.i64.wrap ((↑ps.length : Int) - (1 : Int))).toNat)) + IntKind.i64.wrap
  (IntKind.u8.wrap (b - (48 : Int)))))) = x.fst.params ∧ l = x.snd ∧ Leaf rtR K x)) ∧ (decide (b ≤ (57 : Int)) = false → (decide (b ≤ (59 : Int)) = true → (decide
  ((↑ps.length : Int) = (0 : Int)) = true → (decide ((1 : Int) = (16 : Int)) = true → True ∧ ∀ (r : Parse × List Ev), r = (P0 (4 : Int), l) → ∃ (x : Parse × List Ev),
  r.fst.state = x.fst.state ∧ r.fst.part = x.fst.part ∧ r.fst.inter = x.fst.inter ∧ r.fst.text = x.fst.text ∧ r.fst.params = x.fst.params ∧ r.snd = x.snd ∧ Leaf rtR K x) ∧
  (decide ((1 : Int) = (16 : Int)) = false → (2 ≤ 140737488355328 ∧ 16 ≤ 140737488355328) ∧ ∃ (x : Parse × List Ev), st = x.fst.state ∧ pt = x.fst.part ∧ it = x.fst.inter ∧
  tx = x.fst.text ∧ [(-1 : Int)] ++ [(-1 : Int)] = x.fst.params ∧ l = x.snd ∧ Leaf rtR K x)) ∧ (decide ((↑ps.length : Int) = (0 : Int)) = false → (decide ((↑ps.length :
  Int) = (16 : Int)) = true → True ∧ ∀ (r : Parse × List Ev), r = (P0 (4 : Int), l) → ∃ (x : Parse × List Ev), r.fst.state = x.fst.state ∧ r.fst.part = x.fst.part ∧
  r.fst.inter = x.fst.inter ∧ r.fst.text = x.fst.text ∧ r.fst.params = x.fst.params ∧ r.snd = x.snd ∧ Leaf rtR K x) ∧ (decide ((↑ps.length : Int) = (16 : Int)) = false →
  (ps.length + 1 ≤ 140737488355328 ∧ (ps.length + 1) * 8 ≤ 140737488355328) ∧ ∃ (x : Parse × List Ev), st = x.fst.state ∧ pt = x.fst.part ∧ it = x.fst.inter ∧ tx =
  x.fst.text ∧ ps ++ [(-1 : Int)] = x.fst.params ∧ l = x.snd ∧ Leaf rtR K x))) ∧ (decide (b ≤ (59 : Int)) = false → (decide (b ≤ (63 : Int)) = true → ∃ (b_2 : Bool),
  (decide ((0 : Int) < (↑ps.length : Int)) = false → (!decide (it = ByteArray.mk #[])) = b_2) ∧ ((decide ((0 : Int) < (↑ps.length : Int)) || b_2) = true → True ∧ ∀ (r :
  Parse × List Ev), r = (P0 (4 : Int), l) → ∃ (x : Parse × List Ev), r.fst.state = x.fst.state ∧ r.fst.part = x.fst.part ∧ r.fst.inter = x.fst.inter ∧ r.fst.text =
  x.fst.text ∧ r.fst.params = x.fst.params ∧ r.snd = x.snd ∧ Leaf rtR K x) ∧ ((decide ((0 : Int) < (↑ps.length : Int)) || b_2) = false → ∃ (x : Parse × List Ev), st =
  x.fst.state ∧ pt = x.fst.part ∧ strBytes [b] = x.fst.inter ∧ tx = x.fst.text ∧ ps = x.fst.params ∧ l = x.snd ∧ Leaf rtR K x)) ∧ (decide (b ≤ (63 : Int)) = false → (decide
  (b = (127 : Int)) = true → ∃ (x : Parse × List Ev), st = x.fst.state ∧ pt = x.fst.part ∧ it = x.fst.inter ∧ tx = x.fst.text ∧ ps = x.fst.params ∧ l = x.snd ∧ Leaf rtR K
  x) ∧ (decide (b = (127 : Int)) = false → (decide ((127 : Int) < b) = true → True ∧ ∀ (r : Parse × List Ev), r = (P0 (0 : Int), l) → ∃ (x : Parse × List Ev), r.fst.state =
  x.fst.state ∧ r.fst.part = x.fst.part ∧ r.fst.inter = x.fst.inter ∧ r.fst.text = x.fst.text ∧ r.fst.params = x.fst.params ∧ r.snd = x.snd ∧ Leaf rtR K x) ∧ (decide ((127
  : Int) < b) = false → ps.length ≤ 100000000 ∧ (l.length + [Ev.mk (4 : Int) (IntKind.i64.wrap b) ps it (ByteArray.mk #[])].length ≤ 140737488355328 ∧ (l.length + [Ev.mk (4
  : Int) (IntKind.i64.wrap b) ps it (ByteArray.mk #[])].length) * 72 ≤ 140737488355328) ∧ True ∧ ∀ (r : Parse × List Ev), r = (P0 (0 : Int), l ++ [Ev.mk (4 : Int)
  (IntKind.i64.wrap b) ps it (ByteArray.mk #[])]) → ∃ (x : Parse × List Ev), r.fst.state = x.fst.state ∧ r.fst.part = x.fst.part ∧ r.fst.inter = x.fst.inter ∧ r.fst.text =
  x.fst.text ∧ r.fst.params = x.fst.params ∧ r.snd = x.snd ∧ Leaf rtR K x))))))))) := by kernel_rfl

theorem rcsi_ok : ConOk Tryd.prog 71 rcsiCon := fn_ok2 (env_ok e_resc_ok) mixed Tryd.func71 rfl rcsiCon (by
  intro ags M K h
  unfold rcsiCon at h
  simp only at h
  split at h
  · rename_i b st pt it tx ps l
    refine ⟨{ cfgR with fz := [47], jn := fun r => match r with | 1 => some 5 | _ => none }, ?_⟩
    show evFn (env e_resc) _ _ [.ptr 0 0, .int .u8 b] [.flat [.i st, .s pt, .own 1, .s it, .s tx, .own 2], ints ps, .arr .ev l] _
    rw [rcsi_vc]
    obtain ⟨hp, h⟩ := h
    obtain ⟨p1, p2, p3, p4, p5⟩ := hp
    have hsz : it.size ≤ 3 := p4.2.2.1.2.2.1
    have hpl : ps.length ≤ 16 := p4.2.2.2.1
    have hpv : ∀ v ∈ (ps : List Int), -1 ≤ v ∧ v ≤ 9999 := p4.2.2.2.2.2.1
    obtain ⟨q1, q2, q3⟩ := par1_ok (p := ⟨st, pt, ps, it, tx⟩) (b := b) hpl hpv
    have e0 : it = ⟨#[]⟩ ↔ it.size = 0 := size_zero
    have hw : IntKind.i64.wrap ((ps.length : Int) - 1) = (ps.length : Int) - 1 := w64 (by omega)
    have hw1 : IntKind.i64.wrap ((it.size : Int) - 1) = (it.size : Int) - 1 := w64 (by omega)
    have ht1 : ((it.size : Int) - 1).toNat = it.size - 1 := by omega
    have ht2 : ((ps.length : Int) - 1).toNat = ps.length - 1 := by omega
    have hz : IntKind.i64.wrap ((1 : Int) - 1) = 0 := by kernel_rfl
    rw [hw, hw1, ht1, ht2, hz]
    refine ⟨decide (it ≠ E0 ∧ bt it (it.size - 1) ≤ 47), ⟨fun h1 => ⟨⟨?_, ?_⟩, rfl, ?_⟩, fun h1 => ⟨rfl, ?_⟩⟩, fun h1 => ⟨⟨by simp; omega, by simp; omega⟩, ?_⟩, fun h1 => ⟨fun h2 => ⟨fun h3 => ⟨trivial, ?_⟩, fun h3 => ⟨?_, ?_⟩⟩, fun h2 => ⟨_, fun _ => rfl, fun h3 => ⟨trivial, ?_⟩, fun h3 => ⟨fun h4 => ⟨fun h5 => ⟨⟨?_, ?_⟩, by omega, ⟨?_, ?_⟩, by omega, ?_⟩, fun h5 => ⟨⟨?_, ?_⟩, ?_, ⟨?_, ?_⟩, ?_, ?_⟩⟩, fun h4 => ⟨fun h5 => ⟨fun h6 => ⟨fun h7 => ?_, fun h7 => ⟨⟨by omega, by omega⟩, ?_⟩⟩, fun h6 => ⟨fun h7 => ⟨trivial, ?_⟩, fun h7 => ⟨⟨by omega, by omega⟩, ?_⟩⟩⟩, fun h5 => ⟨fun h6 => ⟨_, fun _ => rfl, fun h7 => ⟨trivial, ?_⟩, fun h7 => ?_⟩, fun h6 => ⟨fun h7 => ?_, fun h7 => ⟨fun h8 => ⟨trivial, ?_⟩, fun h8 => ⟨by omega, ⟨by simp; omega, by simp; omega⟩, trivial, ?_⟩⟩⟩⟩⟩⟩⟩⟩⟩
    all_goals first
      | (rintro _ rfl; dsimp only; apply Exists.intro (Prod.mk (Parse.mk _ _ _ _ _) _); dsimp only; refine ⟨rfl, rfl, rfl, rfl, rfl, rfl, ?_⟩; refine h _ ?_)
      | (apply Exists.intro (Prod.mk (Parse.mk _ _ _ _ _) _); dsimp only; refine ⟨rfl, rfl, rfl, rfl, rfl, rfl, ?_⟩; refine h _ ?_)
      | skip
    all_goals (clear h p4; try simp only [strBytes_size, ByteArray.size_append, List.length_append, List.length_cons, List.length_nil, Nat.zero_add, Bool.and_eq_true, Bool.or_eq_true, Bool.and_eq_false_iff, Bool.or_eq_false_iff, decide_eq_true_eq, decide_eq_false_iff_not, Bool.not_eq_true', Bool.not_eq_eq_eq_not, Bool.not_true, Bool.not_false, true_and, and_true, Int.toNat_natCast, not_true_eq_false, not_false_eq_true, ne_eq, eq_self, Bool.true_eq, Bool.false_eq, decide_eq_decide] at *)
    all_goals first
      | omega
      | skip
    · have hne : ¬it = E0 := fun e => by have := e0.1 e; omega
      exact ⟨fun e => ⟨hne, e⟩, fun e => e.2⟩
    · exact fun e => e.1 (e0.2 (by omega))
    all_goals unfold csiS
    · rw [if_pos h1]; simp [toldV, E0]
    all_goals rw [if_neg h1]
    · rw [if_pos h2, if_pos (by dsimp only; omega)]; simp [P0, E0]
    · rw [if_pos h2, if_neg (by dsimp only; omega)]; simp
    all_goals rw [if_neg h2]
    · rw [if_pos h3.1, paramS, if_pos (by exact h3.2)]; simp [P0, E0]
    all_goals have hn : b ≤ 63 → ¬(it ≠ E0 ∧ bt it (it.size - 1) ≤ 47) := fun e => h3.elim (fun e' => absurd e e') id
    · have hp0 : ps = [] := List.length_eq_zero_iff.1 (by omega)
      subst hp0
      have hg : gt (Kd.int .i64) [(-1 : Int)] 0 = (-1 : Int) := by kernel_rfl
      have hl1 : ([(-1 : Int)]).length - 1 = 0 := rfl
      rw [if_pos (by omega), paramS, if_neg (hn (by omega)), if_pos h4, par1, if_pos ⟨by omega, rfl⟩]
      dsimp only [List.nil_append]
      rw [hl1, hg, digit_eq (v := -1) (by omega) (by omega) (by omega) h4]
      simp
    · have hpar : par1 ⟨st, pt, ps, it, tx⟩ b = ps := by rw [par1, if_neg (by dsimp only; omega)]
      have hv := hpv _ (List.mem_of_getElem? (gt_lt (k := .int .i64) (xs := ps) (i := ps.length - 1) (by omega)))
      rw [if_pos (by omega), paramS, if_neg (hn (by omega)), if_pos h4, hpar, digit_eq hv.1 hv.2 (by omega) h4]
      simp
    · have hp0 : ps = [] := List.length_eq_zero_iff.1 (by omega)
      subst hp0
      have hpar : par1 ⟨st, pt, [], it, tx⟩ b = [-1] := by rw [par1, if_pos ⟨h5, rfl⟩]; rfl
      rw [if_pos (by omega), paramS, if_neg (hn (by omega)), if_neg h4, if_pos h5, hpar, if_neg (by simp)]
      simp
    · have hpar : par1 ⟨st, pt, ps, it, tx⟩ b = ps := by rw [par1, if_neg (by dsimp only; omega)]
      rw [if_pos (by omega), paramS, if_neg (hn (by omega)), if_neg h4, if_pos h5, hpar, if_pos (by omega)]
      simp [P0, E0]
    · have hpar : par1 ⟨st, pt, ps, it, tx⟩ b = ps := by rw [par1, if_neg (by dsimp only; omega)]
      rw [if_pos (by omega), paramS, if_neg (hn (by omega)), if_neg h4, if_pos h5, hpar, if_neg (by omega)]
      simp
    · have hpar : par1 ⟨st, pt, ps, it, tx⟩ b = ps := by rw [par1, if_neg (by dsimp only; omega)]
      rw [if_pos (by omega), paramS, if_neg (hn (by omega)), if_neg h4, if_neg h5, hpar, if_pos (by rcases h7 with h7 | h7; exact .inl (by omega); exact .inr h7)]
      simp [P0, E0]
    · have hpar : par1 ⟨st, pt, ps, it, tx⟩ b = ps := by rw [par1, if_neg (by dsimp only; omega)]
      rw [if_pos (by omega), paramS, if_neg (hn (by omega)), if_neg h4, if_neg h5, hpar, if_neg (by rintro (e | e); exact h7.1 (by omega); exact e h7.2)]
      simp
    all_goals rw [if_neg h6]
    · rw [if_neg (by omega), if_neg (by omega)]; simp
    · rw [if_neg (by omega), if_pos h8]; simp [P0, E0]
    · rw [if_pos (by omega)]; simp [P0, E0, toldV]
  · exact h.elim)
noncomputable def e_rcsi : List (FuncId × Con) := (71, rcsiCon) :: e_resc
theorem e_rcsi_ok : ConsOk Tryd.prog (look e_rcsi) := cons_cons e_resc_ok rcsi_ok
noncomputable def rbyICon : Con := ⟨[.m, .v], fun ags M K => evFn (env e_rcsi) Tryd.f46 (cfg1) ags M K⟩
theorem rbyI_ok : ConOk Tryd.prog 46 rbyICon := fn_ok (env_ok e_rcsi_ok) mixed Tryd.func46 rfl rbyICon (cfg1) (fun _ _ _ h => h)
noncomputable def e_rbyI : List (FuncId × Con) := (46, rbyICon) :: e_rcsi
theorem e_rbyI_ok : ConsOk Tryd.prog (look e_rbyI) := cons_cons e_rcsi_ok rbyI_ok
noncomputable def rbyCon : Con := ⟨[.m, .v], fun ags M K => match ags, M with
  | [.ptr 0 0, .val (.int .u8 b)], [.flat [.val (.int .i64 st), .val (.string pt), .own 1, .val (.string it), .val (.string tx), .own 2], .arr (.int .i64) ps, .arr .ev l] => (l.length ≤ 80000 ∧ 0 ≤ b ∧ b < 256 ∧ StOk ⟨st, pt, ps, it, tx⟩) ∧ ∀ r : Parse × List Ev, r = ((takeS ⟨st, pt, ps, it, tx⟩ b).1, l ++ (takeS ⟨st, pt, ps, it, tx⟩ b).2.map toldV) → K (.tup []) (MOR r.1 r.2)
  | _, _ => False⟩
theorem rby_vc (b st : Int) (pt it tx : ByteArray) (ps : List Int) (l : List Ev) (K : AV → List Blk → Prop) : (evFn (env e_rbyI) Tryd.f46 (cfgR) [.ptr 0 0, .int .u8 b] [.flat [.i st, .s pt, .own 1, .s it, .s tx, .own 2], ints ps, .arr .ev l] K) = (
  ∃ (b_1 : Bool), (decide (st = (5 : Int)) = false → decide (st = (6 : Int)) = b_1) ∧ ∃ (b_2 : Bool), (decide (b = (24 : Int)) = false → decide (b = (26 : Int)) = b_2) ∧
  ((decide (b = (24 : Int)) || b_2) = true → ((!decide (pt = ByteArray.mk #[])) = true → (l.length ≤ 100000 ∧ 1 ≤ 1000) ∧ ∀ (r : Parse × List Ev), r = (Parse.mk st pt ps it
  tx, l ++ List.map toldV (pr1 [(65533 : Int)])) → (r.snd.length + [Ev.mk (2 : Int) (IntKind.i64.wrap b) [] (ByteArray.mk #[]) (ByteArray.mk #[])].length ≤ 140737488355328
  ∧ (r.snd.length + [Ev.mk (2 : Int) (IntKind.i64.wrap b) [] (ByteArray.mk #[]) (ByteArray.mk #[])].length) * 72 ≤ 140737488355328) ∧ True ∧ ∀ (r_1 : Parse × List Ev), r_1
  = (P0 (0 : Int), r.snd ++ [Ev.mk (2 : Int) (IntKind.i64.wrap b) [] (ByteArray.mk #[]) (ByteArray.mk #[])]) → ∃ (x : Parse × List Ev), r_1.fst.state = x.fst.state ∧
  r_1.fst.part = x.fst.part ∧ r_1.fst.inter = x.fst.inter ∧ r_1.fst.text = x.fst.text ∧ r_1.fst.params = x.fst.params ∧ r_1.snd = x.snd ∧ Leaf rtR K x) ∧ ((!decide (pt =
  ByteArray.mk #[])) = false → (l.length + [Ev.mk (2 : Int) (IntKind.i64.wrap b) [] (ByteArray.mk #[]) (ByteArray.mk #[])].length ≤ 140737488355328 ∧ (l.length + [Ev.mk (2
  : Int) (IntKind.i64.wrap b) [] (ByteArray.mk #[]) (ByteArray.mk #[])].length) * 72 ≤ 140737488355328) ∧ True ∧ ∀ (r : Parse × List Ev), r = (P0 (0 : Int), l ++ [Ev.mk (2
  : Int) (IntKind.i64.wrap b) [] (ByteArray.mk #[]) (ByteArray.mk #[])]) → ∃ (x : Parse × List Ev), r.fst.state = x.fst.state ∧ r.fst.part = x.fst.part ∧ r.fst.inter =
  x.fst.inter ∧ r.fst.text = x.fst.text ∧ r.fst.params = x.fst.params ∧ r.snd = x.snd ∧ Leaf rtR K x)) ∧ ((decide (b = (24 : Int)) || b_2) = false → ∃ (b_3 : Bool), (decide
  (b = (27 : Int)) = true → (!(decide (st = (5 : Int)) || b_1)) = b_3) ∧ ((decide (b = (27 : Int)) && b_3) = true → ((!decide (pt = ByteArray.mk #[])) = true → (l.length ≤
  100000 ∧ 1 ≤ 1000) ∧ ∀ (r : Parse × List Ev), r = (Parse.mk st pt ps it tx, l ++ List.map toldV (pr1 [(65533 : Int)])) → True ∧ ∀ (r_1 : Parse × List Ev), r_1 = (P0 (1 :
  Int), r.snd) → ∃ (x : Parse × List Ev), r_1.fst.state = x.fst.state ∧ r_1.fst.part = x.fst.part ∧ r_1.fst.inter = x.fst.inter ∧ r_1.fst.text = x.fst.text ∧ r_1.fst.params
  = x.fst.params ∧ r_1.snd = x.snd ∧ Leaf rtR K x) ∧ ((!decide (pt = ByteArray.mk #[])) = false → True ∧ ∀ (r : Parse × List Ev), r = (P0 (1 : Int), l) → ∃ (x : Parse ×
  List Ev), r.fst.state = x.fst.state ∧ r.fst.part = x.fst.part ∧ r.fst.inter = x.fst.inter ∧ r.fst.text = x.fst.text ∧ r.fst.params = x.fst.params ∧ r.snd = x.snd ∧ Leaf
  rtR K x)) ∧ ((decide (b = (27 : Int)) && b_3) = false → (decide (st = (0 : Int)) = true → (l.length ≤ 90000 ∧ (0 : Int) ≤ b ∧ b < (256 : Int) ∧ (pt = E0 ∨ partS pt =
  true)) ∧ ∀ (r : Parse × List Ev), r = ((groundS (Parse.mk st pt ps it tx) b).fst, l ++ List.map toldV (groundS (Parse.mk st pt ps it tx) b).snd) → ∃ (x : Parse × List
  Ev), r.fst.state = x.fst.state ∧ r.fst.part = x.fst.part ∧ r.fst.inter = x.fst.inter ∧ r.fst.text = x.fst.text ∧ r.fst.params = x.fst.params ∧ r.snd = x.snd ∧ Leaf rtR K
  x) ∧ (decide (st = (0 : Int)) = false → (decide (st = (1 : Int)) = true → (l.length ≤ 90000 ∧ (0 : Int) ≤ b ∧ b < (256 : Int) ∧ StOk (Parse.mk st pt ps it tx) ∧ (st = (1
  : Int) ∨ st = (2 : Int))) ∧ ∀ (r : Parse × List Ev), r = ((escI (Parse.mk st pt ps it tx) b).fst, l ++ List.map toldV (escI (Parse.mk st pt ps it tx) b).snd) → ∃ (x :
  Parse × List Ev), r.fst.state = x.fst.state ∧ r.fst.part = x.fst.part ∧ r.fst.inter = x.fst.inter ∧ r.fst.text = x.fst.text ∧ r.fst.params = x.fst.params ∧ r.snd = x.snd
  ∧ Leaf rtR K x) ∧ (decide (st = (1 : Int)) = false → (decide (st = (2 : Int)) = true → (l.length ≤ 90000 ∧ (0 : Int) ≤ b ∧ b < (256 : Int) ∧ StOk (Parse.mk st pt ps it
  tx) ∧ (st = (1 : Int) ∨ st = (2 : Int))) ∧ ∀ (r : Parse × List Ev), r = ((escI (Parse.mk st pt ps it tx) b).fst, l ++ List.map toldV (escI (Parse.mk st pt ps it tx)
  b).snd) → ∃ (x : Parse × List Ev), r.fst.state = x.fst.state ∧ r.fst.part = x.fst.part ∧ r.fst.inter = x.fst.inter ∧ r.fst.text = x.fst.text ∧ r.fst.params = x.fst.params
  ∧ r.snd = x.snd ∧ Leaf rtR K x) ∧ (decide (st = (2 : Int)) = false → (decide (st = (3 : Int)) = true → (l.length ≤ 90000 ∧ (0 : Int) ≤ b ∧ b < (256 : Int) ∧ StOk
  (Parse.mk st pt ps it tx) ∧ st = (3 : Int)) ∧ ∀ (r : Parse × List Ev), r = ((csiS (Parse.mk st pt ps it tx) b).fst, l ++ List.map toldV (csiS (Parse.mk st pt ps it tx)
  b).snd) → ∃ (x : Parse × List Ev), r.fst.state = x.fst.state ∧ r.fst.part = x.fst.part ∧ r.fst.inter = x.fst.inter ∧ r.fst.text = x.fst.text ∧ r.fst.params = x.fst.params
  ∧ r.snd = x.snd ∧ Leaf rtR K x) ∧ (decide (st = (3 : Int)) = false → (decide (st = (4 : Int)) = true → (decide (b < (32 : Int)) = true → (l.length + [Ev.mk (2 : Int)
  (IntKind.i64.wrap b) [] (ByteArray.mk #[]) (ByteArray.mk #[])].length ≤ 140737488355328 ∧ (l.length + [Ev.mk (2 : Int) (IntKind.i64.wrap b) [] (ByteArray.mk #[])
  (ByteArray.mk #[])].length) * 72 ≤ 140737488355328) ∧ ∃ (x : Parse × List Ev), st = x.fst.state ∧ pt = x.fst.part ∧ it = x.fst.inter ∧ tx = x.fst.text ∧ ps = x.fst.params
  ∧ l ++ [Ev.mk (2 : Int) (IntKind.i64.wrap b) [] (ByteArray.mk #[]) (ByteArray.mk #[])] = x.snd ∧ Leaf rtR K x) ∧ (decide (b < (32 : Int)) = false → ∃ (b_4 : Bool),
  (decide ((64 : Int) ≤ b) = true → (!decide (b = (127 : Int))) = b_4) ∧ ((decide ((64 : Int) ≤ b) && b_4) = true → True ∧ ∀ (r : Parse × List Ev), r = (P0 (0 : Int), l) →
  ∃ (x : Parse × List Ev), r.fst.state = x.fst.state ∧ r.fst.part = x.fst.part ∧ r.fst.inter = x.fst.inter ∧ r.fst.text = x.fst.text ∧ r.fst.params = x.fst.params ∧ r.snd =
  x.snd ∧ Leaf rtR K x) ∧ ((decide ((64 : Int) ≤ b) && b_4) = false → ∃ (x : Parse × List Ev), st = x.fst.state ∧ pt = x.fst.part ∧ it = x.fst.inter ∧ tx = x.fst.text ∧ ps
  = x.fst.params ∧ l = x.snd ∧ Leaf rtR K x))) ∧ (decide (st = (4 : Int)) = false → (decide (st = (5 : Int)) = true → (decide (b = (7 : Int)) = true → (l.length + [Ev.mk (5
  : Int) (0 : Int) [] (ByteArray.mk #[]) tx].length ≤ 140737488355328 ∧ (l.length + [Ev.mk (5 : Int) (0 : Int) [] (ByteArray.mk #[]) tx].length) * 72 ≤ 140737488355328) ∧
  True ∧ ∀ (r : Parse × List Ev), r = (P0 (0 : Int), l ++ [Ev.mk (5 : Int) (0 : Int) [] (ByteArray.mk #[]) tx]) → ∃ (x : Parse × List Ev), r.fst.state = x.fst.state ∧
  r.fst.part = x.fst.part ∧ r.fst.inter = x.fst.inter ∧ r.fst.text = x.fst.text ∧ r.fst.params = x.fst.params ∧ r.snd = x.snd ∧ Leaf rtR K x) ∧ (decide (b = (7 : Int)) =
  false → (decide (b = (27 : Int)) = true → ∃ (x : Parse × List Ev), (7 : Int) = x.fst.state ∧ pt = x.fst.part ∧ it = x.fst.inter ∧ tx = x.fst.text ∧ ps = x.fst.params ∧ l
  = x.snd ∧ Leaf rtR K x) ∧ (decide (b = (27 : Int)) = false → ∃ (b_4 : Bool), (decide ((32 : Int) ≤ b) = true → decide ((↑tx.size : Int) < (64 : Int)) = b_4) ∧ ((decide
  ((32 : Int) ≤ b) && b_4) = true → tx.size + (strBytes [b]).size ≤ 4611686018427387904 ∧ ∃ (x : Parse × List Ev), st = x.fst.state ∧ pt = x.fst.part ∧ it = x.fst.inter ∧
  tx ++ strBytes [b] = x.fst.text ∧ ps = x.fst.params ∧ l = x.snd ∧ Leaf rtR K x) ∧ ((decide ((32 : Int) ≤ b) && b_4) = false → ∃ (x : Parse × List Ev), st = x.fst.state ∧
  pt = x.fst.part ∧ it = x.fst.inter ∧ tx = x.fst.text ∧ ps = x.fst.params ∧ l = x.snd ∧ Leaf rtR K x)))) ∧ (decide (st = (5 : Int)) = false → (decide (st = (6 : Int)) =
  true → (decide (b = (27 : Int)) = true → True ∧ ∀ (r : Parse × List Ev), r = (P0 (8 : Int), l) → ∃ (x : Parse × List Ev), r.fst.state = x.fst.state ∧ r.fst.part =
  x.fst.part ∧ r.fst.inter = x.fst.inter ∧ r.fst.text = x.fst.text ∧ r.fst.params = x.fst.params ∧ r.snd = x.snd ∧ Leaf rtR K x) ∧ (decide (b = (27 : Int)) = false → ∃ (x :
  Parse × List Ev), st = x.fst.state ∧ pt = x.fst.part ∧ it = x.fst.inter ∧ tx = x.fst.text ∧ ps = x.fst.params ∧ l = x.snd ∧ Leaf rtR K x)) ∧ (decide (st = (6 : Int)) =
  false → (decide (b = (92 : Int)) = true → (decide (st = (7 : Int)) = true → (l.length + [Ev.mk (5 : Int) (0 : Int) [] (ByteArray.mk #[]) tx].length ≤ 140737488355328 ∧
  (l.length + [Ev.mk (5 : Int) (0 : Int) [] (ByteArray.mk #[]) tx].length) * 72 ≤ 140737488355328) ∧ True ∧ ∀ (r : Parse × List Ev), r = (P0 (0 : Int), l ++ [Ev.mk (5 :
  Int) (0 : Int) [] (ByteArray.mk #[]) tx]) → ∃ (x : Parse × List Ev), r.fst.state = x.fst.state ∧ r.fst.part = x.fst.part ∧ r.fst.inter = x.fst.inter ∧ r.fst.text =
  x.fst.text ∧ r.fst.params = x.fst.params ∧ r.snd = x.snd ∧ Leaf rtR K x) ∧ (decide (st = (7 : Int)) = false → True ∧ ∀ (r : Parse × List Ev), r = (P0 (0 : Int), l) → ∃ (x
  : Parse × List Ev), r.fst.state = x.fst.state ∧ r.fst.part = x.fst.part ∧ r.fst.inter = x.fst.inter ∧ r.fst.text = x.fst.text ∧ r.fst.params = x.fst.params ∧ r.snd =
  x.snd ∧ Leaf rtR K x)) ∧ (decide (b = (92 : Int)) = false → True ∧ ∀ (r : Parse × List Ev), r = (P0 (1 : Int), l) → ∃ (b_4 : Bool), (decide (r.fst.state = (5 : Int)) =
  false → decide (r.fst.state = (6 : Int)) = b_4) ∧ ∃ (b_5 : Bool), (decide (b = (24 : Int)) = false → decide (b = (26 : Int)) = b_5) ∧ ((decide (b = (24 : Int)) || b_5) =
  true → ((!decide (r.fst.part = ByteArray.mk #[])) = true → (r.snd.length ≤ 100000 ∧ 1 ≤ 1000) ∧ ∀ (r_1 : Parse × List Ev), r_1 = (Parse.mk r.fst.state r.fst.part
  r.fst.params r.fst.inter r.fst.text, r.snd ++ List.map toldV (pr1 [(65533 : Int)])) → (r_1.snd.length + [Ev.mk (2 : Int) (IntKind.i64.wrap b) [] (ByteArray.mk #[])
  (ByteArray.mk #[])].length ≤ 140737488355328 ∧ (r_1.snd.length + [Ev.mk (2 : Int) (IntKind.i64.wrap b) [] (ByteArray.mk #[]) (ByteArray.mk #[])].length) * 72 ≤
  140737488355328) ∧ True ∧ ∀ (r : Parse × List Ev), r = (P0 (0 : Int), r_1.snd ++ [Ev.mk (2 : Int) (IntKind.i64.wrap b) [] (ByteArray.mk #[]) (ByteArray.mk #[])]) → ∃ (x :
  Parse × List Ev), r.fst.state = x.fst.state ∧ r.fst.part = x.fst.part ∧ r.fst.inter = x.fst.inter ∧ r.fst.text = x.fst.text ∧ r.fst.params = x.fst.params ∧ r.snd = x.snd
  ∧ Leaf rtR K x) ∧ ((!decide (r.fst.part = ByteArray.mk #[])) = false → (r.snd.length + [Ev.mk (2 : Int) (IntKind.i64.wrap b) [] (ByteArray.mk #[]) (ByteArray.mk
  #[])].length ≤ 140737488355328 ∧ (r.snd.length + [Ev.mk (2 : Int) (IntKind.i64.wrap b) [] (ByteArray.mk #[]) (ByteArray.mk #[])].length) * 72 ≤ 140737488355328) ∧ True ∧
  ∀ (r_1 : Parse × List Ev), r_1 = (P0 (0 : Int), r.snd ++ [Ev.mk (2 : Int) (IntKind.i64.wrap b) [] (ByteArray.mk #[]) (ByteArray.mk #[])]) → ∃ (x : Parse × List Ev),
  r_1.fst.state = x.fst.state ∧ r_1.fst.part = x.fst.part ∧ r_1.fst.inter = x.fst.inter ∧ r_1.fst.text = x.fst.text ∧ r_1.fst.params = x.fst.params ∧ r_1.snd = x.snd ∧ Leaf
  rtR K x)) ∧ ((decide (b = (24 : Int)) || b_5) = false → ∃ (b_6 : Bool), (decide (b = (27 : Int)) = true → (!(decide (r.fst.state = (5 : Int)) || b_4)) = b_6) ∧ ((decide
  (b = (27 : Int)) && b_6) = true → ((!decide (r.fst.part = ByteArray.mk #[])) = true → (r.snd.length ≤ 100000 ∧ 1 ≤ 1000) ∧ ∀ (r_1 : Parse × List Ev), r_1 = (Parse.mk
  r.fst.state r.fst.part r.fst.params r.fst.inter r.fst.text, r.snd ++ List.map toldV (pr1 [(65533 : Int)])) → True ∧ ∀ (r : Parse × List Ev), r = (P0 (1 : Int), r_1.snd) →
  ∃ (x : Parse × List Ev), r.fst.state = x.fst.state ∧ r.fst.part = x.fst.part ∧ r.fst.inter = x.fst.inter ∧ r.fst.text = x.fst.text ∧ r.fst.params = x.fst.params ∧ r.snd =
  x.snd ∧ Leaf rtR K x) ∧ ((!decide (r.fst.part = ByteArray.mk #[])) = false → True ∧ ∀ (r_1 : Parse × List Ev), r_1 = (P0 (1 : Int), r.snd) → ∃ (x : Parse × List Ev),
  r_1.fst.state = x.fst.state ∧ r_1.fst.part = x.fst.part ∧ r_1.fst.inter = x.fst.inter ∧ r_1.fst.text = x.fst.text ∧ r_1.fst.params = x.fst.params ∧ r_1.snd = x.snd ∧ Leaf
  rtR K x)) ∧ ((decide (b = (27 : Int)) && b_6) = false → (decide (r.fst.state = (0 : Int)) = true → (r.snd.length ≤ 90000 ∧ (0 : Int) ≤ b ∧ b < (256 : Int) ∧ (r.fst.part =
  E0 ∨ partS r.fst.part = true)) ∧ ∀ (r_1 : Parse × List Ev), r_1 = ((groundS (Parse.mk r.fst.state r.fst.part r.fst.params r.fst.inter r.fst.text) b).fst, r.snd ++
  List.map toldV (groundS (Parse.mk r.fst.state r.fst.part r.fst.params r.fst.inter r.fst.text) b).snd) → ∃ (x : Parse × List Ev), r_1.fst.state = x.fst.state ∧
  r_1.fst.part = x.fst.part ∧ r_1.fst.inter = x.fst.inter ∧ r_1.fst.text = x.fst.text ∧ r_1.fst.params = x.fst.params ∧ r_1.snd = x.snd ∧ Leaf rtR K x) ∧ (decide
  (r.fst.state = (0 : Int)) = false → (decide (r.fst.state = (1 : Int)) = true → (r.snd.length ≤ 90000 ∧ (0 : Int) ≤ b ∧ b < (256 : Int) ∧ StOk (Parse.mk r.fst.state
  r.fst.part r.fst.params r.fst.inter r.fst.text) ∧ (r.fst.state = (1 : Int) ∨ r.fst.state = (2 : Int))) ∧ ∀ (r_1 : Parse × List Ev), r_1 = ((escI (Parse.mk r.fst.state
  r.fst.part r.fst.params r.fst.inter r.fst.text) b).fst, r.snd ++ List.map toldV (escI (Parse.mk r.fst.state r.fst.part r.fst.params r.fst.inter r.fst.text) b).snd) → ∃ (x
  : Parse × List Ev), r_1.fst.state = x.fst.state ∧ r_1.fst.part = x.fst.part ∧ r_1.fst.inter = x.fst.inter ∧ r_1.fst.text = x.fst.text ∧ r_1.fst.params = x.fst.params ∧
  r_1.snd = x.snd ∧ Leaf rtR K x) ∧ (decide (r.fst.state = (1 : Int)) = false → (decide (r.fst.state = (2 : Int)) = true → (r.snd.length ≤ 90000 ∧ (0 : Int) ≤ b ∧ b < (256
  : Int) ∧ StOk (Parse.mk r.fst.state r.fst.part r.fst.params r.fst.inter r.fst.text) ∧ (r.fst.state = (1 : Int) ∨ r.fst.state = (2 : Int))) ∧ ∀ (r_1 : Parse × List Ev),
  r_1 = ((escI (Parse.mk r.fst.state r.fst.part r.fst.params r.fst.inter r.fst.text) b).fst, r.snd ++ List.map toldV (escI (Parse.mk r.fst.state r.fst.part r.fst.params
  r.fst.inter r.fst.text) b).snd) → ∃ (x : Parse × List Ev), r_1.fst.state = x.fst.state ∧ r_1.fst.part = x.fst.part ∧ r_1.fst.inter = x.fst.inter ∧ r_1.fst.text =
  x.fst.text ∧ r_1.fst.params = x.fst.params ∧ r_1.snd = x.snd ∧ Leaf rtR K x) ∧ (decide (r.fst.state = (2 : Int)) = false → (decide (r.fst.state = (3 : Int)) = true →
  (r.snd.length ≤ 90000 ∧ (0 : Int) ≤ b ∧ b < (256 : Int) ∧ StOk (Parse.mk r.fst.state r.fst.part r.fst.params r.fst.inter r.fst.text) ∧ r.fst.state = (3 : Int)) ∧ ∀ (r_1 :
  Parse × List Ev), r_1 = ((csiS (Parse.mk r.fst.state r.fst.part r.fst.params r.fst.inter r.fst.text) b).fst, r.snd ++ List.map toldV (csiS (Parse.mk r.fst.state
  r.fst.part r.fst.params r.fst.inter r.fst.text) b).snd) → ∃ (x : Parse × List Ev), r_1.fst.state = x.fst.state ∧ r_1.fst.part = x.fst.part ∧ r_1.fst.inter = x.fst.inter ∧
  r_1.fst.text = x.fst.text ∧ r_1.fst.params = x.fst.params ∧ r_1.snd = x.snd ∧ Leaf rtR K x) ∧ (decide (r.fst.state = (3 : Int)) = false → (decide (r.fst.state = (4 :
  Int)) = true → (decide (b < (32 : Int)) = true → (r.snd.length + [Ev.mk (2 : Int) (IntKind.i64.wrap b) [] (ByteArray.mk #[]) (ByteArray.mk #[])].length ≤ 140737488355328
  ∧ (r.snd.length + [Ev.mk (2 : Int) (IntKind.i64.wrap b) [] (ByteArray.mk #[]) (ByteArray.mk #[])].length) * 72 ≤ 140737488355328) ∧ ∃ (x : Parse × List Ev), r.fst.state =
  x.fst.state ∧ r.fst.part = x.fst.part ∧ r.fst.inter = x.fst.inter ∧ r.fst.text = x.fst.text ∧ r.fst.params = x.fst.params ∧ r.snd ++ [Ev.mk (2 : Int) (IntKind.i64.wrap b)
  [] (ByteArray.mk #[]) (ByteArray.mk #[])] = x.snd ∧ Leaf rtR K x) ∧ (decide (b < (32 : Int)) = false → ∃ (b_7 : Bool), (decide ((64 : Int) ≤ b) = true → (!decide (b =
  (127 : Int))) = b_7) ∧ ((decide ((64 : Int) ≤ b) && b_7) = true → True ∧ ∀ (r_1 : Parse × List Ev), r_1 = (P0 (0 : Int), r.snd) → ∃ (x : Parse × List Ev), r_1.fst.state =
  x.fst.state ∧ r_1.fst.part = x.fst.part ∧ r_1.fst.inter = x.fst.inter ∧ r_1.fst.text = x.fst.text ∧ r_1.fst.params = x.fst.params ∧ r_1.snd = x.snd ∧ Leaf rtR K x) ∧
  ((decide ((64 : Int) ≤ b) && b_7) = false → ∃ (x : Parse × List Ev), r.fst.state = x.fst.state ∧ r.fst.part = x.fst.part ∧ r.fst.inter = x.fst.inter ∧ r.fst.text =
  x.fst.text ∧ r.fst.params = x.fst.params ∧ r.snd = x.snd ∧ Leaf rtR K x))) ∧ (decide (r.fst.state = (4 : Int)) = false → (decide (r.fst.state = (5 : Int)) = true →
  (decide (b = (7 : Int)) = true → (r.snd.length + [Ev.mk (5 : Int) (0 : Int) [] (ByteArray.mk #[]) r.fst.text].length ≤ 140737488355328 ∧ (r.snd.length + [Ev.mk (5 : Int)
  (0 : Int) [] (ByteArray.mk #[]) r.fst.text].length) * 72 ≤ 140737488355328) ∧ True ∧ ∀ (r_1 : Parse × List Ev), r_1 = (P0 (0 : Int), r.snd ++ [Ev.mk (5 : Int) (0 : Int)
  [] (ByteArray.mk #[]) r.fst.text]) → ∃ (x : Parse × List Ev), r_1.fst.state = x.fst.state ∧ r_1.fst.part = x.fst.part ∧ r_1.fst.inter = x.fst.inter ∧ r_1.fst.text =
  x.fst.text ∧ r_1.fst.params = x.fst.params ∧ r_1.snd = x.snd ∧ Leaf rtR K x) ∧ (decide (b = (7 : Int)) = false → (decide (b = (27 : Int)) = true → ∃ (x : Parse × List
  Ev), (7 : Int) = x.fst.state ∧ r.fst.part = x.fst.part ∧ r.fst.inter = x.fst.inter ∧ r.fst.text = x.fst.text ∧ r.fst.params = x.fst.params ∧ r.snd = x.snd ∧ Leaf rtR K x)
  ∧ (decide (b = (27 : Int)) = false → ∃ (b_7 : Bool), (decide ((32 : Int) ≤ b) = true → decide ((↑r.fst.text.size : Int) < (64 : Int)) = b_7) ∧ ((decide ((32 : Int) ≤ b)
  && b_7) = true → r.fst.text.size + (strBytes [b]).size ≤ 4611686018427387904 ∧ ∃ (x : Parse × List Ev), r.fst.state = x.fst.state ∧ r.fst.part = x.fst.part ∧ r.fst.inter
  = x.fst.inter ∧ r.fst.text ++ strBytes [b] = x.fst.text ∧ r.fst.params = x.fst.params ∧ r.snd = x.snd ∧ Leaf rtR K x) ∧ ((decide ((32 : Int) ≤ b) && b_7) = false → ∃ (x :
  Parse × List Ev), r.fst.state = x.fst.state ∧ r.fst.part = x.fst.part ∧ r.fst.inter = x.fst.inter ∧ r.fst.text = x.fst.text ∧ r.fst.params = x.fst.params ∧ r.snd = x.snd
  ∧ Leaf rtR K x)))) ∧ (decide (r.fst.state = (5 : Int)) = false → (decide (r.fst.state = (6 : Int)) = true → (decide (b = (27 : Int)) = true → True ∧ ∀ (r_1 : Parse × List
  Ev), r_1 = (P0 (8 : Int), r.snd) → ∃ (x : Parse × List Ev), r_1.fst.state = x.fst.state ∧ r_1.fst.part = x.fst.part ∧ r_1.fst.inter = x.fst.inter ∧ r_1.fst.text =
  x.fst.text ∧ r_1.fst.params = x.fst.params ∧ r_1.snd = x.snd ∧ Leaf rtR K x) ∧ (decide (b = (27 : Int)) = false → ∃ (x : Parse × List Ev), r.fst.state = x.fst.state ∧
  r.fst.part = x.fst.part ∧ r.fst.inter = x.fst.inter ∧ r.fst.text = x.fst.text ∧ r.fst.params = x.fst.params ∧ r.snd = x.snd ∧ Leaf rtR K x)) ∧ (decide (r.fst.state = (6 :
  Int)) = false → (decide (b = (92 : Int)) = true → (decide (r.fst.state = (7 : Int)) = true → (r.snd.length + [Ev.mk (5 : Int) (0 : Int) [] (ByteArray.mk #[])
  r.fst.text].length ≤ 140737488355328 ∧ (r.snd.length + [Ev.mk (5 : Int) (0 : Int) [] (ByteArray.mk #[]) r.fst.text].length) * 72 ≤ 140737488355328) ∧ True ∧ ∀ (r_1 :
  Parse × List Ev), r_1 = (P0 (0 : Int), r.snd ++ [Ev.mk (5 : Int) (0 : Int) [] (ByteArray.mk #[]) r.fst.text]) → ∃ (x : Parse × List Ev), r_1.fst.state = x.fst.state ∧
  r_1.fst.part = x.fst.part ∧ r_1.fst.inter = x.fst.inter ∧ r_1.fst.text = x.fst.text ∧ r_1.fst.params = x.fst.params ∧ r_1.snd = x.snd ∧ Leaf rtR K x) ∧ (decide
  (r.fst.state = (7 : Int)) = false → True ∧ ∀ (r_1 : Parse × List Ev), r_1 = (P0 (0 : Int), r.snd) → ∃ (x : Parse × List Ev), r_1.fst.state = x.fst.state ∧ r_1.fst.part =
  x.fst.part ∧ r_1.fst.inter = x.fst.inter ∧ r_1.fst.text = x.fst.text ∧ r_1.fst.params = x.fst.params ∧ r_1.snd = x.snd ∧ Leaf rtR K x)) ∧ (decide (b = (92 : Int)) = false
  → True ∧ ∀ (r_1 : Parse × List Ev), r_1 = (P0 (1 : Int), r.snd) → False))))))))))))))))))))) := by kernel_rfl

theorem rby_ok : ConOk Tryd.prog 46 rbyCon := fn_ok2 (env_ok e_rbyI_ok) mixed Tryd.func46 rfl rbyCon (by
  intro ags M K h
  unfold rbyCon at h
  simp only at h
  split at h
  · rename_i b st pt it tx ps l
    refine ⟨cfgR, ?_⟩
    show evFn (env e_rbyI) _ _ [.ptr 0 0, .int .u8 b] [.flat [.i st, .s pt, .own 1, .s it, .s tx, .own 2], ints ps, .arr .ev l] _
    rw [rby_vc]
    obtain ⟨hp, h⟩ := h
    obtain ⟨p1, p2, p3, p4⟩ := hp
    have hs0 := p4.1
    obtain ⟨e2, e3, e4, e5, e6, e7, e8, e9⟩ := p4.2
    dsimp only at e2 e3 e4 e5 e6 e7 e8 e9 hs0
    have hpp : pt = E0 ∨ partS pt = true := (Classical.em (pt = E0)).imp id fun e => (e2 e).2
    have f2 : st ≠ 0 → pt = E0 := fun e => Classical.byContradiction fun e' => e (e2 e').1
    have f5 : st ≠ 3 → ps = [] := fun e => Classical.byContradiction fun e' => e (e5 (fun q => e' (List.length_eq_zero_iff.1 q)))
    have f7 : st ≠ 5 → st ≠ 7 → tx = E0 := fun q1 q2 => Classical.byContradiction fun e' => (e7 e').elim q1 q2
    have f3 : st ≠ 2 → st ≠ 3 → it = E0 := fun q1 q2 => e3.2.1 q1 q2
    have hpr : List.map toldV (pr1 [65533]) = [⟨1, 65533, [], E0, E0⟩] := by kernel_rfl
    rw [hpr]
    clear hpr e2 e3 e4 e5 e6 e7 e9
    repeat' first
        | (apply Exists.intro (Prod.mk (Parse.mk _ _ _ _ _) _); dsimp only; refine ⟨rfl, rfl, rfl, rfl, rfl, rfl, ?_⟩; refine h _ ?_)
        | assumption
        | exact rfl
        | (exact p0_ok (by omega))
        | (refine ⟨_, fun _ => rfl, ?_⟩)
        | (rintro _ rfl; try dsimp only)
        | apply And.intro
        | intro _
        | apply Exists.intro
    all_goals (clear h p4; try simp only [strBytes_size, ByteArray.size_append, List.length_append, List.length_cons, List.length_nil, Nat.zero_add, Bool.and_eq_true, Bool.or_eq_true, Bool.and_eq_false_iff, Bool.or_eq_false_iff, decide_eq_true_eq, decide_eq_false_iff_not, Bool.not_eq_true', Bool.not_eq_eq_eq_not, Bool.not_true, Bool.not_false, true_and, and_true, Int.toNat_natCast, not_true_eq_false, not_false_eq_true, ne_eq, eq_self, false_or, or_false] at *)
    all_goals first
      | omega
      | exact .inl trivial
      | skip
    · rw [takeS, if_pos (by assumption), flushE_at, if_neg (by assumption)]; simp [P0, E0, toldV]
    · rw [takeS, if_pos (by assumption), flushE_at, if_pos (by assumption)]; simp [P0, E0, toldV]
    · rw [takeS, if_neg (by omega), if_pos (by assumption), flushE_at, if_neg (by assumption)]; simp [P0, E0, toldV]
    · rw [takeS, if_neg (by omega), if_pos (by assumption), flushE_at, if_pos (by assumption)]; simp [P0, E0, toldV]
    all_goals (try (have hst6 : st = 6 := by assumption); simp only [f2 (by omega), f5 (by omega), f3 (by omega) (by omega), f7 (by omega) (by omega)])
    all_goals (simp only [takeS, textS, skipS, takeE, escI]; repeat first | rw [if_pos (by omega)] | rw [if_neg (by omega)])
    all_goals first
      | rfl
      | (simp [toldV, E0]; done)
  · exact h.elim)
noncomputable def e_rby : List (FuncId × Con) := (46, rbyCon) :: e_rbyI
theorem e_rby_ok : ConsOk Tryd.prog (look e_rby) := cons_cons e_rbyI_ok rby_ok
end Go.Cx
end
section
namespace Go.Cx
open Go Go.Sx Go.Proofs
set_option maxRecDepth 100000
set_option maxHeartbeats 0
/-! vt: the page's Feed and State -/
noncomputable def rcpPCon : Con := ⟨[.g [none, none, some (.int .i64), none, none]], fun ags M K => evFn (env e_rby) Tryd.f32 (cfg1) ags M K⟩
theorem rcpP_ok : ConOk Tryd.prog 32 rcpPCon := fn_ok (env_ok e_rby_ok) mixed Tryd.func32 rfl rcpPCon (cfg1) (fun _ _ _ h => h)
noncomputable def e_rcpP : List (FuncId × Con) := (32, rcpPCon) :: e_rby
theorem e_rcpP_ok : ConsOk Tryd.prog (look e_rcpP) := cons_cons e_rby_ok rcpP_ok
def rtG : Lr := ⟨Parse × List Ev, fun r => [.own 0, .agg [.i r.1.state, .s r.1.part, .own 1, .s r.1.inter, .s r.1.text]], fun r => [.arr .ev r.2, ints r.1.params]⟩
def rfLp (p : Parse) (s : ByteArray) : Lp := { X := Nat × Parse × List Ev, fr := fun x => [(1, .s s), (4, .val (.slice none 0 0)), (5, .ptr 0 0), (6, .ptr 1 0), (7, .i x.1)], M := fun x => [.flat zp, .flat [.i x.2.1.state, .s x.2.1.part, .own 2, .s x.2.1.inter, .s x.2.1.text, .own 3], ints x.2.1.params, .arr .ev x.2.2], inv := fun x => x.1 ≤ s.size ∧ ∃ l, x.2.2 = l.map toldV ∧ runV (x.2.1, l) ((bytesL s).drop x.1) = feedV p s ∧ StOk x.2.1 ∧ l.length ≤ 2 * x.1, mu := fun x => s.size - x.1 }
noncomputable def rfeedCon : Con := ⟨[.g [none, none, some (.int .i64), none, none], .v], fun ags M K => match ags, M with
  | [.agg [.val (.int .i64 st), .val (.string pt), .lt (.int .i64) ps, .val (.string it), .val (.string tx)], .val (.string s)], [] => (StOk ⟨st, pt, ps, it, tx⟩ ∧ s.size ≤ 4000) ∧ ∀ r : Parse × List Ev, r = ((feedV ⟨st, pt, ps, it, tx⟩ s).1, (feedV ⟨st, pt, ps, it, tx⟩ s).2.map toldV) → K (.tup [.own 0, .agg [.i r.1.state, .s r.1.part, .own 1, .s r.1.inter, .s r.1.text]]) [.arr .ev r.2, ints r.1.params]
  | _, _ => False⟩
theorem rfeed_vc (st : Int) (pt : ByteArray) (ps : List Int) (it tx s : ByteArray) (K : AV → List Blk → Prop) : (evFn (env e_rcpP) Tryd.f26 ({ cfg1 with rt := some rtG, lp := fun r => match r with | 3 => some (rfLp ⟨st, pt, ps, it, tx⟩ s) | _ => none }) [.agg [.i st, .s pt, .lt (.int .i64) ps, .s it, .s tx], .s s] [] K) = (
  ps.length ≤ 100000000 ∧ ∃ (x0 : Nat × Parse × List Ev), (x0.fst ≤ s.size ∧ ∃ (l : List Vev), x0.snd.snd = List.map toldV l ∧ runV (x0.snd.fst, l) (List.drop x0.fst
  (bytesL s)) = feedV (Parse.mk st pt ps it tx) s ∧ StOk x0.snd.fst ∧ l.length ≤ 2 * x0.fst) ∧ (0 : Int) = (0 : Int) ∧ ByteArray.mk #[] = E0 ∧ Value.slice none 0 0 =
  Value.slice none 0 0 ∧ ByteArray.mk #[] = E0 ∧ ByteArray.mk #[] = E0 ∧ st = x0.snd.fst.state ∧ pt = x0.snd.fst.part ∧ it = x0.snd.fst.inter ∧ tx = x0.snd.fst.text ∧ ps =
  x0.snd.fst.params ∧ [] = x0.snd.snd ∧ s = s ∧ Value.slice none 0 0 = Value.slice none 0 0 ∧ 0 = 0 ∧ 0 = 0 ∧ (0 : Int) = (↑x0.fst : Int) ∧ ∀ (x : Nat × Parse × List Ev),
  (x.fst ≤ s.size ∧ ∃ (l : List Vev), x.snd.snd = List.map toldV l ∧ runV (x.snd.fst, l) (List.drop x.fst (bytesL s)) = feedV (Parse.mk st pt ps it tx) s ∧ StOk x.snd.fst ∧
  l.length ≤ 2 * x.fst) → (decide ((↑x.fst : Int) < (↑s.size : Int)) = true → ((0 : Int) ≤ (↑x.fst : Int) ∧ (↑x.fst : Int) < (↑s.size : Int)) ∧ (x.snd.snd.length ≤ 80000 ∧
  (0 : Int) ≤ bt s (↑x.fst : Int).toNat ∧ bt s (↑x.fst : Int).toNat < (256 : Int) ∧ StOk (Parse.mk x.snd.fst.state x.snd.fst.part x.snd.fst.params x.snd.fst.inter
  x.snd.fst.text)) ∧ ∀ (r : Parse × List Ev), r = ((takeS (Parse.mk x.snd.fst.state x.snd.fst.part x.snd.fst.params x.snd.fst.inter x.snd.fst.text) (bt s (↑x.fst :
  Int).toNat)).fst, x.snd.snd ++ List.map toldV (takeS (Parse.mk x.snd.fst.state x.snd.fst.part x.snd.fst.params x.snd.fst.inter x.snd.fst.text) (bt s (↑x.fst :
  Int).toNat)).snd) → ∃ (x' : Nat × Parse × List Ev), ((x'.fst ≤ s.size ∧ ∃ (l : List Vev), x'.snd.snd = List.map toldV l ∧ runV (x'.snd.fst, l) (List.drop x'.fst (bytesL
  s)) = feedV (Parse.mk st pt ps it tx) s ∧ StOk x'.snd.fst ∧ l.length ≤ 2 * x'.fst) ∧ s.size - x'.fst < s.size - x.fst) ∧ (0 : Int) = (0 : Int) ∧ E0 = E0 ∧ Value.slice
  none 0 0 = Value.slice none 0 0 ∧ E0 = E0 ∧ E0 = E0 ∧ r.fst.state = x'.snd.fst.state ∧ r.fst.part = x'.snd.fst.part ∧ r.fst.inter = x'.snd.fst.inter ∧ r.fst.text =
  x'.snd.fst.text ∧ r.fst.params = x'.snd.fst.params ∧ r.snd = x'.snd.snd ∧ s = s ∧ Value.slice none 0 0 = Value.slice none 0 0 ∧ 0 = 0 ∧ 0 = 0 ∧ IntKind.i64.wrap ((↑x.fst
  : Int) + (1 : Int)) = (↑x'.fst : Int) ∧ True) ∧ (decide ((↑x.fst : Int) < (↑s.size : Int)) = false → ∃ (x_1 : Parse × List Ev), x.snd.snd = x_1.snd ∧ x.snd.fst.params =
  x_1.fst.params ∧ x.snd.fst.state = x_1.fst.state ∧ x.snd.fst.part = x_1.fst.part ∧ x.snd.fst.inter = x_1.fst.inter ∧ x.snd.fst.text = x_1.fst.text ∧ Leaf rtG K x_1)) := by kernel_rfl

theorem rfeed_ok : ConOk Tryd.prog 26 rfeedCon := fn_ok2 (env_ok e_rcpP_ok) mixed Tryd.func26 rfl rfeedCon (by
  intro ags M K h
  unfold rfeedCon at h
  simp only at h
  split at h
  · rename_i st pt ps it tx s
    refine ⟨{ cfg1 with rt := some rtG, lp := fun r => match r with | 3 => some (rfLp ⟨st, pt, ps, it, tx⟩ s) | _ => none }, ?_⟩
    show evFn (env e_rcpP) _ _ [.agg [.i st, .s pt, .lt (.int .i64) ps, .s it, .s tx], .s s] [] _
    rw [rfeed_vc]
    obtain ⟨hp, h⟩ := h
    obtain ⟨p1, p2⟩ := hp
    refine ⟨by have h16 : ps.length ≤ 16 := p1.2.2.2.1; omega, (0, ⟨st, pt, ps, it, tx⟩, []), ⟨Nat.zero_le _, [], rfl, rfl, p1, Nat.zero_le _⟩, ?_⟩
    repeat (refine ⟨rfl, ?_⟩)
    rintro ⟨i, q, ev⟩ ⟨q1, l, e, q2, q3, q4⟩
    dsimp only at q1 e q2 q3 q4 ⊢
    subst e
    refine ⟨fun h3 => ?_, fun h3 => ?_⟩
    · simp only [strBytes_size, ByteArray.size_append, List.length_append, List.length_cons, List.length_nil, Nat.zero_add, Bool.and_eq_true, Bool.or_eq_true, Bool.and_eq_false_iff, Bool.or_eq_false_iff, decide_eq_true_eq, decide_eq_false_iff_not, Bool.not_eq_true', Bool.not_eq_eq_eq_not, Bool.not_true, Bool.not_false, true_and, and_true, Int.toNat_natCast, not_true_eq_false, not_false_eq_true, ne_eq, eq_self] at h3
      have hi : i < s.size := by omega
      have hbr := bt_range s i
      rw [Int.toNat_natCast]
      refine ⟨⟨by omega, by omega⟩, ⟨by rw [List.length_map]; omega, hbr.1, hbr.2, q3⟩, ?_⟩
      rintro _ rfl
      have hl := takeS_len q (bt s i)
      refine ⟨(i + 1, (takeS q (bt s i)).1, l.map toldV ++ (takeS q (bt s i)).2.map toldV), ⟨⟨hi, l ++ (takeS q (bt s i)).2, List.map_append.symm, ?_, take_stok q3 hbr.1 hbr.2, ?_⟩, ?_⟩, ?_⟩
      · rw [← q2, drop_bytes hi, runV]
      · show (l ++ (takeS q (bt s i)).2).length ≤ 2 * (i + 1)
        rw [List.length_append]; omega
      · show s.size - (i + 1) < s.size - i; omega
      · repeat (refine ⟨rfl, ?_⟩)
        exact ⟨by rw [w64 (by omega)]; show (i : Int) + 1 = ((i + 1 : Nat) : Int); omega, trivial⟩
    · simp only [strBytes_size, ByteArray.size_append, List.length_append, List.length_cons, List.length_nil, Nat.zero_add, Bool.and_eq_true, Bool.or_eq_true, Bool.and_eq_false_iff, Bool.or_eq_false_iff, decide_eq_true_eq, decide_eq_false_iff_not, Bool.not_eq_true', Bool.not_eq_eq_eq_not, Bool.not_true, Bool.not_false, true_and, and_true, Int.toNat_natCast, not_true_eq_false, not_false_eq_true, ne_eq, eq_self] at h3
      have hi : i = s.size := by omega
      subst hi
      rw [List.drop_of_length_le (by rw [bytesL_len]; exact Nat.le_refl _)] at q2
      have q2 : (q, l) = feedV ⟨st, pt, ps, it, tx⟩ s := q2
      rw [← q2] at h
      exact ⟨(q, l.map toldV), rfl, rfl, rfl, rfl, rfl, rfl, h _ rfl⟩
  · exact h.elim)
noncomputable def e_rfeed : List (FuncId × Con) := (26, rfeedCon) :: e_rcpP
theorem e_rfeed_ok : ConsOk Tryd.prog (look e_rfeed) := cons_cons e_rcpP_ok rfeed_ok
noncomputable def e_may2 : List (FuncId × Con) := (11, mayCon) :: e_rfeed
theorem e_may2_ok : ConsOk Tryd.prog (look e_may2) := cons_cons e_rfeed_ok may_ok
noncomputable def betwCon : Con := ⟨[.v, .v, .v], fun ags M K => evFn (env e_may2) Tryd.f41 (cfg1) ags M K⟩
theorem betw_ok : ConOk Tryd.prog 41 betwCon := fn_ok (env_ok e_may2_ok) mixed Tryd.func41 rfl betwCon (cfg1) (fun _ _ _ h => h)
noncomputable def e_betw : List (FuncId × Con) := (41, betwCon) :: e_may2
theorem e_betw_ok : ConsOk Tryd.prog (look e_betw) := cons_cons e_may2_ok betw_ok
noncomputable def rstateCon : Con := ⟨[.g [none, none, some (.int .i64), none, none]], fun ags M K => match ags, M with
  | [.agg [.val (.int .i64 st), .val (.string pt), .lt (.int .i64) ps, .val (.string it), .val (.string tx)]], [] => (it.size ≤ 4000000000000000000 ∧ tx.size ≤ 4000000000000000000 ∧ ps.length ≤ 4000000000000000000) ∧ ∀ r : Bool, r = pb (StOk ⟨st, pt, ps, it, tx⟩) → K (.b r) []
  | _, _ => False⟩
theorem rstate_vc (st : Int) (pt : ByteArray) (ps : List Int) (it tx : ByteArray) (K : AV → List Blk → Prop) : (evFn (env e_betw) Tryd.f24 ({ cfg1 with rt := some rtB, lp := fun r => match r with | 4 => some { X := Nat, fr := fun i => [(1, .ptr 0 0), (3, .i i)], M := fun _ => [.flat [.i st, .s pt, .lt (.int .i64) ps, .s it, .s tx]], inv := fun i => i ≤ ps.length ∧ ∀ v ∈ (ps.take i : List Int), -1 ≤ v ∧ v ≤ 9999, mu := fun i => ps.length - i } | 9 => some { X := Nat, fr := fun i => [(1, .ptr 0 0), (4, .i i)], M := fun _ => [.flat [.i st, .s pt, .lt (.int .i64) ps, .s it, .s tx]], inv := fun i => i ≤ it.size ∧ ∀ j : Nat, j < i → okI st it j, mu := fun i => it.size - i } | 17 => some { X := Nat, fr := fun i => [(1, .ptr 0 0), (6, .i i)], M := fun _ => [.flat [.i st, .s pt, .lt (.int .i64) ps, .s it, .s tx]], inv := fun i => i ≤ tx.size ∧ ∀ j : Nat, j < i → 32 ≤ bt tx j, mu := fun i => tx.size - i } | _ => none }) [.agg [.i st, .s pt, .lt (.int .i64) ps, .s it, .s tx]] [] K) = (
  ∃ (b : Bool), (decide ((0 : Int) ≤ st) = true → decide (st ≤ (8 : Int)) = b) ∧ ∃ (b_1 : Bool), ((!(decide ((0 : Int) ≤ st) && b)) = false → ∀ (r : Bool), r = decide (pt =
  ByteArray.mk #[] ∨ partS pt = true) → (!r) = b_1) ∧ ∃ (b_2 : Bool), ((!(decide ((0 : Int) ≤ st) && b) || b_1) = false → ∃ (b : Bool), ((!decide (pt = ByteArray.mk #[])) =
  true → (!decide (st = (0 : Int))) = b) ∧ (!decide (pt = ByteArray.mk #[]) && b) = b_2) ∧ ∃ (b_3 : Bool), ((!(decide ((0 : Int) ≤ st) && b) || b_1 || b_2) = false → decide
  ((16 : Int) < (↑ps.length : Int)) = b_3) ∧ ∃ (b_4 : Bool), ((!(decide ((0 : Int) ≤ st) && b) || b_1 || b_2 || b_3) = false → ∃ (b : Bool), (decide ((0 : Int) <
  (↑ps.length : Int)) = true → (!decide (st = (3 : Int))) = b) ∧ (decide ((0 : Int) < (↑ps.length : Int)) && b) = b_4) ∧ ∃ (b_5 : Bool), ((!(decide ((0 : Int) ≤ st) && b)
  || b_1 || b_2 || b_3 || b_4) = false → decide ((3 : Int) < (↑it.size : Int)) = b_5) ∧ ∃ (b_6 : Bool), ((!(decide ((0 : Int) ≤ st) && b) || b_1 || b_2 || b_3 || b_4 ||
  b_5) = false → decide ((64 : Int) < (↑tx.size : Int)) = b_6) ∧ ((!(decide ((0 : Int) ≤ st) && b) || b_1 || b_2 || b_3 || b_4 || b_5 || b_6) = true → ∃ (x : Bool), x =
  false ∧ Leaf rtB K x) ∧ ((!(decide ((0 : Int) ≤ st) && b) || b_1 || b_2 || b_3 || b_4 || b_5 || b_6) = false → ∃ (x0 : Nat), (x0 ≤ ps.length ∧ ∀ (v : Int), v ∈ List.take
  x0 ps → (-1 : Int) ≤ v ∧ v ≤ (9999 : Int)) ∧ st = st ∧ pt = pt ∧ ps = ps ∧ it = it ∧ tx = tx ∧ 0 = 0 ∧ (0 : Int) = (↑x0 : Int) ∧ ∀ (x : Nat), (x ≤ ps.length ∧ ∀ (v :
  Int), v ∈ List.take x ps → (-1 : Int) ≤ v ∧ v ≤ (9999 : Int)) → (decide ((↑x : Int) < (↑ps.length : Int)) = true → ((0 : Int) ≤ (↑x : Int) ∧ (↑x : Int) < (↑ps.length :
  Int)) ∧ ∃ (b : Bool), (decide ((-1 : Int) ≤ gt (Kd.int IntKind.i64) ps (↑x : Int).toNat) = true → decide (gt (Kd.int IntKind.i64) ps (↑x : Int).toNat ≤ (9999 : Int)) = b)
  ∧ ((!(decide ((-1 : Int) ≤ gt (Kd.int IntKind.i64) ps (↑x : Int).toNat) && b)) = true → ∃ (x : Bool), x = false ∧ Leaf rtB K x) ∧ ((!(decide ((-1 : Int) ≤ gt (Kd.int
  IntKind.i64) ps (↑x : Int).toNat) && b)) = false → ∃ (x' : Nat), ((x' ≤ ps.length ∧ ∀ (v : Int), v ∈ List.take x' ps → (-1 : Int) ≤ v ∧ v ≤ (9999 : Int)) ∧ ps.length - x'
  < ps.length - x) ∧ st = st ∧ pt = pt ∧ ps = ps ∧ it = it ∧ tx = tx ∧ 0 = 0 ∧ IntKind.i64.wrap ((↑x : Int) + (1 : Int)) = (↑x' : Int) ∧ True)) ∧ (decide ((↑x : Int) <
  (↑ps.length : Int)) = false → ∃ (x0 : Nat), (x0 ≤ it.size ∧ ∀ (j : Nat), j < x0 → okI st it j) ∧ st = st ∧ pt = pt ∧ ps = ps ∧ it = it ∧ tx = tx ∧ 0 = 0 ∧ (0 : Int) =
  (↑x0 : Int) ∧ ∀ (x : Nat), (x ≤ it.size ∧ ∀ (j : Nat), j < x → okI st it j) → (decide ((↑x : Int) < (↑it.size : Int)) = true → ∃ (b : Bool), (decide ((↑x : Int) = (0 :
  Int)) = true → decide (st = (3 : Int)) = b) ∧ ∃ (b_7 : Bool), ((decide ((↑x : Int) = (0 : Int)) && b) = true → ((0 : Int) ≤ (↑x : Int) ∧ (↑x : Int) < (↑it.size : Int)) ∧
  decide ((60 : Int) ≤ bt it (↑x : Int).toNat) = b_7) ∧ ∃ (b_8 : Bool), ((decide ((↑x : Int) = (0 : Int)) && b && b_7) = true → ((0 : Int) ≤ (↑x : Int) ∧ (↑x : Int) <
  (↑it.size : Int)) ∧ decide (bt it (↑x : Int).toNat ≤ (63 : Int)) = b_8) ∧ ∃ (b_9 : Bool), ((!(decide ((↑x : Int) = (0 : Int)) && b && b_7 && b_8)) = true → ((0 : Int) ≤
  (↑x : Int) ∧ (↑x : Int) < (↑it.size : Int)) ∧ ∃ (b : Bool), (decide ((32 : Int) ≤ bt it (↑x : Int).toNat) = true → ((0 : Int) ≤ (↑x : Int) ∧ (↑x : Int) < (↑it.size :
  Int)) ∧ decide (bt it (↑x : Int).toNat ≤ (47 : Int)) = b) ∧ (!(decide ((32 : Int) ≤ bt it (↑x : Int).toNat) && b)) = b_9) ∧ ((!(decide ((↑x : Int) = (0 : Int)) && b &&
  b_7 && b_8) && b_9) = true → ∃ (x : Bool), x = false ∧ Leaf rtB K x) ∧ ((!(decide ((↑x : Int) = (0 : Int)) && b && b_7 && b_8) && b_9) = false → ∃ (x' : Nat), ((x' ≤
  it.size ∧ ∀ (j : Nat), j < x' → okI st it j) ∧ it.size - x' < it.size - x) ∧ st = st ∧ pt = pt ∧ ps = ps ∧ it = it ∧ tx = tx ∧ 0 = 0 ∧ IntKind.i64.wrap ((↑x : Int) + (1 :
  Int)) = (↑x' : Int) ∧ True)) ∧ (decide ((↑x : Int) < (↑it.size : Int)) = false → ∃ (b : Bool), ((!decide (st = (3 : Int))) = true → (decide (st = (2 : Int)) != !decide
  (it = ByteArray.mk #[])) = b) ∧ ((!decide (st = (3 : Int)) && b) = true → ∃ (x : Bool), x = false ∧ Leaf rtB K x) ∧ ((!decide (st = (3 : Int)) && b) = false → ∃ (x0 :
  Nat), (x0 ≤ tx.size ∧ ∀ (j : Nat), j < x0 → (32 : Int) ≤ bt tx j) ∧ st = st ∧ pt = pt ∧ ps = ps ∧ it = it ∧ tx = tx ∧ 0 = 0 ∧ (0 : Int) = (↑x0 : Int) ∧ ∀ (x : Nat), (x ≤
  tx.size ∧ ∀ (j : Nat), j < x → (32 : Int) ≤ bt tx j) → (decide ((↑x : Int) < (↑tx.size : Int)) = true → ((0 : Int) ≤ (↑x : Int) ∧ (↑x : Int) < (↑tx.size : Int)) ∧ (decide
  (bt tx (↑x : Int).toNat < (32 : Int)) = true → ∃ (x : Bool), x = false ∧ Leaf rtB K x) ∧ (decide (bt tx (↑x : Int).toNat < (32 : Int)) = false → ∃ (x' : Nat), ((x' ≤
  tx.size ∧ ∀ (j : Nat), j < x' → (32 : Int) ≤ bt tx j) ∧ tx.size - x' < tx.size - x) ∧ st = st ∧ pt = pt ∧ ps = ps ∧ it = it ∧ tx = tx ∧ 0 = 0 ∧ IntKind.i64.wrap ((↑x :
  Int) + (1 : Int)) = (↑x' : Int) ∧ True)) ∧ (decide ((↑x : Int) < (↑tx.size : Int)) = false → ∃ (b : Bool), (decide (tx = ByteArray.mk #[]) = false → decide (st = (5 :
  Int)) = b) ∧ ∃ (b_7 : Bool), ((decide (tx = ByteArray.mk #[]) || b) = false → decide (st = (7 : Int)) = b_7) ∧ ∃ (x : Bool), (decide (tx = ByteArray.mk #[]) || b || b_7)
  = x ∧ Leaf rtB K x)))))) := by kernel_rfl

theorem rstate_ok : ConOk Tryd.prog 24 rstateCon := fn_ok2 (env_ok e_betw_ok) mixed Tryd.func24 rfl rstateCon (by
  intro ags M K h
  unfold rstateCon at h
  simp only at h
  split at h
  · rename_i st pt ps it tx
    refine ⟨{ cfg1 with rt := some rtB, lp := fun r => match r with | 4 => some { X := Nat, fr := fun i => [(1, .ptr 0 0), (3, .i i)], M := fun _ => [.flat [.i st, .s pt, .lt (.int .i64) ps, .s it, .s tx]], inv := fun i => i ≤ ps.length ∧ ∀ v ∈ (ps.take i : List Int), -1 ≤ v ∧ v ≤ 9999, mu := fun i => ps.length - i } | 9 => some { X := Nat, fr := fun i => [(1, .ptr 0 0), (4, .i i)], M := fun _ => [.flat [.i st, .s pt, .lt (.int .i64) ps, .s it, .s tx]], inv := fun i => i ≤ it.size ∧ ∀ j : Nat, j < i → okI st it j, mu := fun i => it.size - i } | 17 => some { X := Nat, fr := fun i => [(1, .ptr 0 0), (6, .i i)], M := fun _ => [.flat [.i st, .s pt, .lt (.int .i64) ps, .s it, .s tx]], inv := fun i => i ≤ tx.size ∧ ∀ j : Nat, j < i → 32 ≤ bt tx j, mu := fun i => tx.size - i } | _ => none }, ?_⟩
    show evFn (env e_betw) _ _ [.agg [.i st, .s pt, .lt (.int .i64) ps, .s it, .s tx]] [] _
    rw [rstate_vc]
    obtain ⟨hp, h⟩ := h
    obtain ⟨p1, p2, p3⟩ := hp
    refine ⟨_, fun _ => rfl, _, fun _ r hr => congrArg not hr, _, fun _ => ⟨_, fun _ => rfl, rfl⟩, _, fun _ => rfl, _, fun _ => ⟨_, fun _ => rfl, rfl⟩, _, fun _ => rfl, _, fun _ => rfl, fun h1 => ⟨_, rfl, h _ ?_⟩, fun h1 => ⟨0, ⟨Nat.zero_le _, fun v hv => by simp at hv⟩, rfl, rfl, rfl, rfl, rfl, rfl, rfl, ?_⟩⟩
    · simp only [strBytes_size, ByteArray.size_append, List.length_append, List.length_cons, List.length_nil, Nat.zero_add, Bool.and_eq_true, Bool.or_eq_true, Bool.and_eq_false_iff, Bool.or_eq_false_iff, decide_eq_true_eq, decide_eq_false_iff_not, Bool.not_eq_true', Bool.not_eq_eq_eq_not, Bool.not_true, Bool.not_false, true_and, and_true, Int.toNat_natCast, not_true_eq_false, not_false_eq_true, ne_eq, eq_self] at h1
      refine (pb_false.2 fun e => ?_).symm
      obtain ⟨e1, e2, e3, e4, e5, e6, e7, e8, e9⟩ := e
      dsimp only at *
      have e33 := e3.2.2.1
      rcases h1 with ((((((h1 | h1) | h1) | h1) | h1) | h1) | h1)
      · omega
      · exact h1 ((Classical.em (pt = E0)).imp id fun e => (e2 e).2)
      · exact h1.2 (e2 h1.1).1
      · omega
      · exact h1.2 (e5 (by omega))
      · omega
      · omega
    simp only [strBytes_size, ByteArray.size_append, List.length_append, List.length_cons, List.length_nil, Nat.zero_add, Bool.and_eq_true, Bool.or_eq_true, Bool.and_eq_false_iff, Bool.or_eq_false_iff, decide_eq_true_eq, decide_eq_false_iff_not, Bool.not_eq_true', Bool.not_eq_eq_eq_not, Bool.not_true, Bool.not_false, true_and, and_true, Int.toNat_natCast, not_true_eq_false, not_false_eq_true, ne_eq, eq_self] at h1
    obtain ⟨⟨⟨⟨⟨⟨h10, h11⟩, h12⟩, h13⟩, h14⟩, h15⟩, h16⟩ := h1
    rintro i ⟨q1, q2⟩
    refine ⟨fun h2 => ?_, fun h2 => ?_⟩
    · simp only [strBytes_size, ByteArray.size_append, List.length_append, List.length_cons, List.length_nil, Nat.zero_add, Bool.and_eq_true, Bool.or_eq_true, Bool.and_eq_false_iff, Bool.or_eq_false_iff, decide_eq_true_eq, decide_eq_false_iff_not, Bool.not_eq_true', Bool.not_eq_eq_eq_not, Bool.not_true, Bool.not_false, true_and, and_true, Int.toNat_natCast, not_true_eq_false, not_false_eq_true, ne_eq, eq_self] at h2
      have hi : i < ps.length := by omega
      rw [Int.toNat_natCast]
      have hg := List.mem_of_getElem? (gt_lt (k := .int .i64) hi)
      refine ⟨⟨by omega, by omega⟩, _, fun _ => rfl, fun h3 => ⟨_, rfl, h _ ?_⟩, fun h3 => ⟨i + 1, ⟨⟨hi, all_snoc hi q2 ?_⟩, by omega⟩, rfl, rfl, rfl, rfl, rfl, rfl, by rw [w64 (by omega)]; omega, trivial⟩⟩
      · simp only [strBytes_size, ByteArray.size_append, List.length_append, List.length_cons, List.length_nil, Nat.zero_add, Bool.and_eq_true, Bool.or_eq_true, Bool.and_eq_false_iff, Bool.or_eq_false_iff, decide_eq_true_eq, decide_eq_false_iff_not, Bool.not_eq_true', Bool.not_eq_eq_eq_not, Bool.not_true, Bool.not_false, true_and, and_true, Int.toNat_natCast, not_true_eq_false, not_false_eq_true, ne_eq, eq_self] at h3
        refine (pb_false.2 fun e => ?_).symm
        obtain ⟨e1, e2, e3, e4, e5, e6, e7, e8, e9⟩ := e
        have := e6 _ hg
        rcases h3 with h3 | h3
        · exact h3 this.1
        · exact h3 this.2
      · simp only [strBytes_size, ByteArray.size_append, List.length_append, List.length_cons, List.length_nil, Nat.zero_add, Bool.and_eq_true, Bool.or_eq_true, Bool.and_eq_false_iff, Bool.or_eq_false_iff, decide_eq_true_eq, decide_eq_false_iff_not, Bool.not_eq_true', Bool.not_eq_eq_eq_not, Bool.not_true, Bool.not_false, true_and, and_true, Int.toNat_natCast, not_true_eq_false, not_false_eq_true, ne_eq, eq_self] at h3
        exact h3
    simp only [strBytes_size, ByteArray.size_append, List.length_append, List.length_cons, List.length_nil, Nat.zero_add, Bool.and_eq_true, Bool.or_eq_true, Bool.and_eq_false_iff, Bool.or_eq_false_iff, decide_eq_true_eq, decide_eq_false_iff_not, Bool.not_eq_true', Bool.not_eq_eq_eq_not, Bool.not_true, Bool.not_false, true_and, and_true, Int.toNat_natCast, not_true_eq_false, not_false_eq_true, ne_eq, eq_self] at h2
    have hi : i = ps.length := by omega
    subst hi
    rw [List.take_length] at q2
    refine ⟨0, ⟨Nat.zero_le _, fun j hj => absurd hj (Nat.not_lt_zero _)⟩, rfl, rfl, rfl, rfl, rfl, rfl, rfl, ?_⟩
    rintro i ⟨q3, q4⟩
    refine ⟨fun h3 => ?_, fun h3 => ?_⟩
    · simp only [strBytes_size, ByteArray.size_append, List.length_append, List.length_cons, List.length_nil, Nat.zero_add, Bool.and_eq_true, Bool.or_eq_true, Bool.and_eq_false_iff, Bool.or_eq_false_iff, decide_eq_true_eq, decide_eq_false_iff_not, Bool.not_eq_true', Bool.not_eq_eq_eq_not, Bool.not_true, Bool.not_false, true_and, and_true, Int.toNat_natCast, not_true_eq_false, not_false_eq_true, ne_eq, eq_self] at h3
      have hi : i < it.size := by omega
      rw [Int.toNat_natCast]
      refine ⟨_, fun _ => rfl, _, fun _ => ⟨⟨by omega, by omega⟩, rfl⟩, _, fun _ => ⟨⟨by omega, by omega⟩, rfl⟩, _, fun _ => ⟨⟨by omega, by omega⟩, _, fun _ => ⟨⟨by omega, by omega⟩, rfl⟩, rfl⟩, fun h4 => ⟨_, rfl, h _ ?_⟩, fun h4 => ⟨i + 1, ⟨⟨hi, ?_⟩, by omega⟩, rfl, rfl, rfl, rfl, rfl, rfl, by rw [w64 (by omega)]; omega, trivial⟩⟩
      · simp only [strBytes_size, ByteArray.size_append, List.length_append, List.length_cons, List.length_nil, Nat.zero_add, Bool.and_eq_true, Bool.or_eq_true, Bool.and_eq_false_iff, Bool.or_eq_false_iff, decide_eq_true_eq, decide_eq_false_iff_not, Bool.not_eq_true', Bool.not_eq_eq_eq_not, Bool.not_true, Bool.not_false, true_and, and_true, Int.toNat_natCast, not_true_eq_false, not_false_eq_true, ne_eq, eq_self] at h4
        refine (pb_false.2 fun e => ?_).symm
        have := e.2.2.1.2.2.2 i hi
        dsimp only at this
        omega
      · intro j hj
        by_cases e : j = i
        · subst e
          simp only [strBytes_size, ByteArray.size_append, List.length_append, List.length_cons, List.length_nil, Nat.zero_add, Bool.and_eq_true, Bool.or_eq_true, Bool.and_eq_false_iff, Bool.or_eq_false_iff, decide_eq_true_eq, decide_eq_false_iff_not, Bool.not_eq_true', Bool.not_eq_eq_eq_not, Bool.not_true, Bool.not_false, true_and, and_true, Int.toNat_natCast, not_true_eq_false, not_false_eq_true, ne_eq, eq_self] at h4
          unfold okI
          omega
        · exact q4 j (by omega)
    simp only [strBytes_size, ByteArray.size_append, List.length_append, List.length_cons, List.length_nil, Nat.zero_add, Bool.and_eq_true, Bool.or_eq_true, Bool.and_eq_false_iff, Bool.or_eq_false_iff, decide_eq_true_eq, decide_eq_false_iff_not, Bool.not_eq_true', Bool.not_eq_eq_eq_not, Bool.not_true, Bool.not_false, true_and, and_true, Int.toNat_natCast, not_true_eq_false, not_false_eq_true, ne_eq, eq_self] at h3
    have hi : i = it.size := by omega
    subst hi
    refine ⟨_, fun _ => rfl, fun h4 => ⟨_, rfl, h _ ?_⟩, fun h4 => ⟨0, ⟨Nat.zero_le _, fun j hj => absurd hj (Nat.not_lt_zero _)⟩, rfl, rfl, rfl, rfl, rfl, rfl, rfl, ?_⟩⟩
    · refine (pb_false.2 fun e => ?_).symm
      obtain ⟨k1, k2, k3⟩ := e.2.2.1
      dsimp only at k1 k2 k3
      by_cases e2 : st = 2
      · have := k1 e2
        have hne : ¬it = ⟨#[]⟩ := this
        simp [e2, hne] at h4
      · simp only [strBytes_size, ByteArray.size_append, List.length_append, List.length_cons, List.length_nil, Nat.zero_add, Bool.and_eq_true, Bool.or_eq_true, Bool.and_eq_false_iff, Bool.or_eq_false_iff, decide_eq_true_eq, decide_eq_false_iff_not, Bool.not_eq_true', Bool.not_eq_eq_eq_not, Bool.not_true, Bool.not_false, true_and, and_true, Int.toNat_natCast, not_true_eq_false, not_false_eq_true, ne_eq, eq_self] at h4
        have := k2 e2 h4.1
        have hne : it = ⟨#[]⟩ := this
        simp [e2, hne] at h4
    have hint : InterOk st it := by
      refine ⟨fun e => ?_, fun e e' => ?_, by omega, q4⟩
      · intro hne
        have hne : it = ⟨#[]⟩ := hne
        simp [e, hne] at h4
      · simp [e, e'] at h4
        exact h4
    rintro i ⟨q5, q6⟩
    refine ⟨fun h5 => ?_, fun h5 => ⟨_, fun _ => rfl, _, fun _ => rfl, _, rfl, h _ ?_⟩⟩
    · simp only [strBytes_size, ByteArray.size_append, List.length_append, List.length_cons, List.length_nil, Nat.zero_add, Bool.and_eq_true, Bool.or_eq_true, Bool.and_eq_false_iff, Bool.or_eq_false_iff, decide_eq_true_eq, decide_eq_false_iff_not, Bool.not_eq_true', Bool.not_eq_eq_eq_not, Bool.not_true, Bool.not_false, true_and, and_true, Int.toNat_natCast, not_true_eq_false, not_false_eq_true, ne_eq, eq_self] at h5
      have hi : i < tx.size := by omega
      rw [Int.toNat_natCast]
      refine ⟨⟨by omega, by omega⟩, fun h6 => ⟨_, rfl, h _ ?_⟩, fun h6 => ⟨i + 1, ⟨⟨hi, fun j hj => ?_⟩, by omega⟩, rfl, rfl, rfl, rfl, rfl, rfl, by rw [w64 (by omega)]; omega, trivial⟩⟩
      · simp only [strBytes_size, ByteArray.size_append, List.length_append, List.length_cons, List.length_nil, Nat.zero_add, Bool.and_eq_true, Bool.or_eq_true, Bool.and_eq_false_iff, Bool.or_eq_false_iff, decide_eq_true_eq, decide_eq_false_iff_not, Bool.not_eq_true', Bool.not_eq_eq_eq_not, Bool.not_true, Bool.not_false, true_and, and_true, Int.toNat_natCast, not_true_eq_false, not_false_eq_true, ne_eq, eq_self] at h6
        refine (pb_false.2 fun e => ?_).symm
        obtain ⟨e1, e2, e3, e4, e5, e6, e7, e8, e9⟩ := e
        have := e9 i hi
        dsimp only at this
        omega
      · simp only [strBytes_size, ByteArray.size_append, List.length_append, List.length_cons, List.length_nil, Nat.zero_add, Bool.and_eq_true, Bool.or_eq_true, Bool.and_eq_false_iff, Bool.or_eq_false_iff, decide_eq_true_eq, decide_eq_false_iff_not, Bool.not_eq_true', Bool.not_eq_eq_eq_not, Bool.not_true, Bool.not_false, true_and, and_true, Int.toNat_natCast, not_true_eq_false, not_false_eq_true, ne_eq, eq_self] at h6
        by_cases e : j = i
        · subst e; omega
        · exact q6 j (by omega)
    · simp only [strBytes_size, ByteArray.size_append, List.length_append, List.length_cons, List.length_nil, Nat.zero_add, Bool.and_eq_true, Bool.or_eq_true, Bool.and_eq_false_iff, Bool.or_eq_false_iff, decide_eq_true_eq, decide_eq_false_iff_not, Bool.not_eq_true', Bool.not_eq_eq_eq_not, Bool.not_true, Bool.not_false, true_and, and_true, Int.toNat_natCast, not_true_eq_false, not_false_eq_true, ne_eq, eq_self] at h5
      have hi : i = tx.size := by omega
      subst hi
      refine pb_eq ?_
      simp only [strBytes_size, ByteArray.size_append, List.length_append, List.length_cons, List.length_nil, Nat.zero_add, Bool.and_eq_true, Bool.or_eq_true, Bool.and_eq_false_iff, Bool.or_eq_false_iff, decide_eq_true_eq, decide_eq_false_iff_not, Bool.not_eq_true', Bool.not_eq_eq_eq_not, Bool.not_true, Bool.not_false, true_and, and_true, Int.toNat_natCast, not_true_eq_false, not_false_eq_true, ne_eq, eq_self]
      constructor
      · intro hr
        refine ⟨h10, fun e => ?_, hint, by dsimp only; omega, fun e => ?_, q2, fun e => ?_, by dsimp only; omega, q6⟩
        · exact ⟨h12.resolve_left e, h11.resolve_left e⟩
        · rcases h14 with h14 | h14
          · exact absurd (by dsimp only at e; omega) h14
          · exact h14
        · rcases hr with (hr | hr) | hr
          · exact absurd hr e
          · exact .inl hr
          · exact .inr hr
      · intro e
        obtain ⟨e1, e2, e3, e4, e5, e6, e7, e8, e9⟩ := e
        dsimp only at *
        by_cases ht : tx = E0
        · exact .inl (.inl ht)
        · rcases e7 ht with e | e
          · exact .inl (.inr e)
          · exact .inr e
  · exact h.elim)
noncomputable def e_rstate : List (FuncId × Con) := (24, rstateCon) :: e_betw
theorem e_rstate_ok : ConsOk Tryd.prog (look e_rstate) := cons_cons e_betw_ok rstate_ok
end Go.Cx
end
