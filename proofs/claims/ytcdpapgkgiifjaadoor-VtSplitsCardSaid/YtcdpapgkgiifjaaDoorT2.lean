/- A law is proved out of the functions' contracts. Conditions: none beyond those of the given statement. -/
import Derived.Test.YtcdpapgkgiifjaaDoorT1
set_option linter.unusedVariables false
set_option linter.unusedSimpArgs false
section
namespace Go.Cx
open Go Go.Sx Go.Proofs
set_option maxRecDepth 100000
set_option maxHeartbeats 0
/-! vt: the program's machine -/
abbrev VK : Kd := .vev 100 95 76 102
abbrev vevs (l : List Vev) : Blk := .arr VK l
abbrev E0 : ByteArray := ⟨#[]⟩
abbrev P0 (st : Int) : Parse := ⟨st, ⟨#[]⟩, [], ⟨#[]⟩, ⟨#[]⟩⟩
def MO (q : Parse) (l : List Vev) : List Blk := [.flat [.i q.state, .s q.part, .own 3, .s q.inter, .s q.text, .own 4], .dead, .dead, ints q.params, vevs l]
def rtM : Lr := ⟨Parse × List Vev, fun _ => [], fun x => MO x.1 x.2⟩
def cfgM : Cfg := { cfg1 with rt := some rtM }
def escS (p : Parse) (b : Int) : Parse × List Vev :=
  if b < 32 then (p, [.control b])
  else if b ≤ 47 then (⟨2, ⟨#[]⟩, [], strBytes [b], ⟨#[]⟩⟩, [])
  else if b = 91 then (P0 3, []) else if b = 93 then (P0 5, [])
  else if b = 80 ∨ b = 88 ∨ b = 94 ∨ b = 95 then (P0 6, [])
  else if b < 127 then (P0 0, [.sequence false b [] ⟨#[]⟩])
  else if 127 < b then (P0 0, []) else (p, [])
theorem strBytes_size (xs : List Int) : (strBytes xs).size = xs.length := by simp [strBytes, ByteArray.size]
def interS (p : Parse) (b : Int) : Parse × List Vev :=
  if b < 32 then (p, [.control b])
  else if b ≤ 47 then (if p.inter.size < 3 then ⟨p.state, p.part, p.params, p.inter ++ strBytes [b], p.text⟩ else p, [])
  else if b < 127 then (P0 0, [.sequence false b [] p.inter])
  else if 127 < b then (P0 0, []) else (p, [])
def skipS (p : Parse) (b : Int) : Parse × List Vev :=
  if b < 32 then (p, [.control b]) else if 64 ≤ b ∧ b ≠ 127 then (P0 0, []) else (p, [])
def par1 (p : Parse) (b : Int) : List Int := if b ≤ 59 ∧ p.params.length = 0 then p.params ++ [-1] else p.params
def paramS (p : Parse) (b : Int) : Parse :=
  if p.inter ≠ E0 ∧ bt p.inter (p.inter.size - 1) ≤ 47 then P0 4
  else if b ≤ 57 then ⟨p.state, p.part, (par1 p b).set ((par1 p b).length - 1) (min 9999 (max 0 (gt (.int .i64) (par1 p b) ((par1 p b).length - 1)) * 10 + (b - 48))), p.inter, p.text⟩
  else if b ≤ 59 then (if (par1 p b).length = 16 then P0 4 else ⟨p.state, p.part, par1 p b ++ [-1], p.inter, p.text⟩)
  else if (par1 p b).length ≠ 0 ∨ p.inter ≠ E0 then P0 4 else ⟨p.state, p.part, par1 p b, strBytes [b], p.text⟩
def csiS (p : Parse) (b : Int) : Parse × List Vev :=
  if b < 32 then (p, [.control b])
  else if b ≤ 47 then (if p.inter.size = 3 then P0 4 else ⟨p.state, p.part, p.params, p.inter ++ strBytes [b], p.text⟩, [])
  else if b ≤ 63 then (paramS p b, [])
  else if b < 127 then (P0 0, [.sequence true b p.params p.inter])
  else if 127 < b then (P0 0, []) else (p, [])
def flushE (p : Parse) : List Vev := if p.part = E0 then [] else [.printed 65533]
def keepR (r : Int) : Bool := decide (r < 128 ∨ 159 < r)
def pr1 (l : List Int) : List Vev := (l.filter keepR).map .printed
def groundS (p : Parse) (b : Int) : Parse × List Vev :=
  if b < 32 then (⟨p.state, E0, p.params, p.inter, p.text⟩, flushE p ++ [.control b])
  else if b = 127 then (⟨p.state, E0, p.params, p.inter, p.text⟩, flushE p)
  else (⟨p.state, (stepS p.part b).2, p.params, p.inter, p.text⟩, pr1 (stepS p.part b).1)
def takeE (b : Int) : Parse × List Vev :=
  if b = 24 ∨ b = 26 then (P0 0, [.control b]) else if b = 27 then (P0 1, []) else escS (P0 1) b
def textS (p : Parse) (b : Int) : Parse × List Vev :=
  if (p.state = 7 ∨ p.state = 8) ∧ b ≠ 92 then takeE b
  else if p.state = 7 ∨ p.state = 5 ∧ b = 7 then (P0 0, [.osc p.text])
  else if p.state = 7 ∨ p.state = 8 then (P0 0, [])
  else if b = 27 ∧ p.state = 5 then (⟨7, p.part, p.params, p.inter, p.text⟩, [])
  else if b = 27 then (⟨8, p.part, p.params, p.inter, p.text⟩, [])
  else if p.state = 5 ∧ 32 ≤ b ∧ p.text.size < 64 then (⟨p.state, p.part, p.params, p.inter, p.text ++ strBytes [b]⟩, [])
  else (p, [])
def takeS (p : Parse) (b : Int) : Parse × List Vev :=
  if b = 24 ∨ b = 26 then (P0 0, flushE p ++ [.control b])
  else if b = 27 ∧ p.state ≠ 5 ∧ p.state ≠ 6 then (P0 1, flushE p)
  else if p.state = 0 then groundS p b
  else if p.state = 1 then escS p b
  else if p.state = 2 then interS p b
  else if p.state = 3 then csiS p b
  else if p.state = 4 then skipS p b
  else textS p b
noncomputable def tellCon : Con := ⟨[.m, .v], fun ags M K => evFn (env l6) Tryd.f57 (cfg1) ags M K⟩
theorem tell_ok : ConOk Tryd.prog 57 tellCon := fn_ok (env_ok l6_ok) mixed Tryd.func57 rfl tellCon (cfg1) (fun _ _ _ h => h)
noncomputable def e_tell : List (FuncId × Con) := (57, tellCon) :: l6
theorem e_tell_ok : ConsOk Tryd.prog (look e_tell) := cons_cons l6_ok tell_ok
noncomputable def toCon : Con := ⟨[.m, .v], fun ags M K => match ags, M with
  | [.ptr 0 0, .val (.int .i64 s)], [.flat [.val (.int .i64 st), .val (.string pt), .own 1, .val (.string it), .val (.string tx), .own 2], .arr (.int .i64) ps, .arr (.vev 100 95 76 102) l] => (True) ∧ ∀ r : Parse × List Vev, r = (P0 s, l) → K (.tup []) (MO r.1 r.2)
  | _, _ => False⟩
theorem to_vc (s st : Int) (pt it tx : ByteArray) (ps : List Int) (l : List Vev) (K : AV → List Blk → Prop) : (evFn (env e_tell) Tryd.f58 (cfgM) [.ptr 0 0, .i s] [.flat [.i st, .s pt, .own 1, .s it, .s tx, .own 2], ints ps, .arr (.vev 100 95 76 102) l] K) = (
  ∃ (x : Parse × List Vev), s = x.fst.state ∧ ByteArray.mk #[] = x.fst.part ∧ ByteArray.mk #[] = x.fst.inter ∧ ByteArray.mk #[] = x.fst.text ∧ [] = x.fst.params ∧ l = x.snd
  ∧ Leaf rtM K x) := by kernel_rfl

theorem to_ok : ConOk Tryd.prog 58 toCon := fn_ok2 (env_ok e_tell_ok) mixed Tryd.func58 rfl toCon (by
  intro ags M K h
  unfold toCon at h
  simp only at h
  split at h
  · rename_i s st pt it tx ps l
    refine ⟨cfgM, ?_⟩
    show evFn (env e_tell) _ _ [.ptr 0 0, .i s] [.flat [.i st, .s pt, .own 1, .s it, .s tx, .own 2], ints ps, .arr (.vev 100 95 76 102) l] _
    rw [to_vc]
    obtain ⟨hp, h⟩ := h
    apply Exists.intro (Prod.mk (Parse.mk _ _ _ _ _) _); dsimp only; refine ⟨rfl, rfl, rfl, rfl, rfl, rfl, ?_⟩
    exact h _ rfl
  · exact h.elim)
noncomputable def e_to : List (FuncId × Con) := (58, toCon) :: e_tell
theorem e_to_ok : ConsOk Tryd.prog (look e_to) := cons_cons e_tell_ok to_ok
noncomputable def flushCon : Con := ⟨[.m], fun ags M K => evFn (env e_to) Tryd.f56 (cfg1) ags M K⟩
theorem flush_ok : ConOk Tryd.prog 56 flushCon := fn_ok (env_ok e_to_ok) mixed Tryd.func56 rfl flushCon (cfg1) (fun _ _ _ h => h)
noncomputable def e_flush : List (FuncId × Con) := (56, flushCon) :: e_to
theorem e_flush_ok : ConsOk Tryd.prog (look e_flush) := cons_cons e_to_ok flush_ok
noncomputable def escCon : Con := ⟨[.m, .v], fun ags M K => match ags, M with
  | [.ptr 0 0, .val (.int .u8 b)], [.flat [.val (.int .i64 st), .val (.string pt), .own 1, .val (.string it), .val (.string tx), .own 2], .arr (.int .i64) ps, .arr (.vev 100 95 76 102) l] => (l.length ≤ 100000) ∧ ∀ r : Parse × List Vev, r = ((escS ⟨st, pt, ps, it, tx⟩ b).1, l ++ (escS ⟨st, pt, ps, it, tx⟩ b).2) → K (.tup []) (MO r.1 r.2)
  | _, _ => False⟩
theorem esc_vc (b st : Int) (pt it tx : ByteArray) (ps : List Int) (l : List Vev) (K : AV → List Blk → Prop) : (evFn (env e_flush) Tryd.f60 (cfgM) [.ptr 0 0, .int .u8 b] [.flat [.i st, .s pt, .own 1, .s it, .s tx, .own 2], ints ps, .arr (.vev 100 95 76 102) l] K) = (
  (decide (b < (32 : Int)) = true → (l.length + [Vev.control b].length ≤ 140737488355328 ∧ (l.length + [Vev.control b].length) * 16 ≤ 140737488355328) ∧ ∃ (x : Parse × List
  Vev), st = x.fst.state ∧ pt = x.fst.part ∧ it = x.fst.inter ∧ tx = x.fst.text ∧ ps = x.fst.params ∧ l ++ [Vev.control b] = x.snd ∧ Leaf rtM K x) ∧ (decide (b < (32 :
  Int)) = false → (decide (b ≤ (47 : Int)) = true → True ∧ ∀ (r : Parse × List Vev), r = (P0 (2 : Int), l) → ∃ (x : Parse × List Vev), r.fst.state = x.fst.state ∧
  r.fst.part = x.fst.part ∧ strBytes [b] = x.fst.inter ∧ r.fst.text = x.fst.text ∧ r.fst.params = x.fst.params ∧ r.snd = x.snd ∧ Leaf rtM K x) ∧ (decide (b ≤ (47 : Int)) =
  false → (decide (b = (91 : Int)) = true → True ∧ ∀ (r : Parse × List Vev), r = (P0 (3 : Int), l) → ∃ (x : Parse × List Vev), r.fst.state = x.fst.state ∧ r.fst.part =
  x.fst.part ∧ r.fst.inter = x.fst.inter ∧ r.fst.text = x.fst.text ∧ r.fst.params = x.fst.params ∧ r.snd = x.snd ∧ Leaf rtM K x) ∧ (decide (b = (91 : Int)) = false →
  (decide (b = (93 : Int)) = true → True ∧ ∀ (r : Parse × List Vev), r = (P0 (5 : Int), l) → ∃ (x : Parse × List Vev), r.fst.state = x.fst.state ∧ r.fst.part = x.fst.part ∧
  r.fst.inter = x.fst.inter ∧ r.fst.text = x.fst.text ∧ r.fst.params = x.fst.params ∧ r.snd = x.snd ∧ Leaf rtM K x) ∧ (decide (b = (93 : Int)) = false → ∃ (b_1 : Bool),
  (decide (b = (80 : Int)) = false → decide (b = (88 : Int)) = b_1) ∧ ∃ (b_2 : Bool), ((decide (b = (80 : Int)) || b_1) = false → decide (b = (94 : Int)) = b_2) ∧ ∃ (b_3 :
  Bool), ((decide (b = (80 : Int)) || b_1 || b_2) = false → decide (b = (95 : Int)) = b_3) ∧ ((decide (b = (80 : Int)) || b_1 || b_2 || b_3) = true → True ∧ ∀ (r : Parse ×
  List Vev), r = (P0 (6 : Int), l) → ∃ (x : Parse × List Vev), r.fst.state = x.fst.state ∧ r.fst.part = x.fst.part ∧ r.fst.inter = x.fst.inter ∧ r.fst.text = x.fst.text ∧
  r.fst.params = x.fst.params ∧ r.snd = x.snd ∧ Leaf rtM K x) ∧ ((decide (b = (80 : Int)) || b_1 || b_2 || b_3) = false → (decide (b < (127 : Int)) = true → True ∧ ∀ (r :
  Parse × List Vev), r = (P0 (0 : Int), l) → (r.snd.length + [Vev.sequence false b [] (ByteArray.mk #[])].length ≤ 140737488355328 ∧ (r.snd.length + [Vev.sequence false b
  [] (ByteArray.mk #[])].length) * 16 ≤ 140737488355328) ∧ ∃ (x : Parse × List Vev), r.fst.state = x.fst.state ∧ r.fst.part = x.fst.part ∧ r.fst.inter = x.fst.inter ∧
  r.fst.text = x.fst.text ∧ r.fst.params = x.fst.params ∧ r.snd ++ [Vev.sequence false b [] (ByteArray.mk #[])] = x.snd ∧ Leaf rtM K x) ∧ (decide (b < (127 : Int)) = false
  → (decide ((127 : Int) < b) = true → True ∧ ∀ (r : Parse × List Vev), r = (P0 (0 : Int), l) → ∃ (x : Parse × List Vev), r.fst.state = x.fst.state ∧ r.fst.part =
  x.fst.part ∧ r.fst.inter = x.fst.inter ∧ r.fst.text = x.fst.text ∧ r.fst.params = x.fst.params ∧ r.snd = x.snd ∧ Leaf rtM K x) ∧ (decide ((127 : Int) < b) = false → ∃ (x
  : Parse × List Vev), st = x.fst.state ∧ pt = x.fst.part ∧ it = x.fst.inter ∧ tx = x.fst.text ∧ ps = x.fst.params ∧ l = x.snd ∧ Leaf rtM K x)))))))) := by kernel_rfl

theorem esc_ok : ConOk Tryd.prog 60 escCon := fn_ok2 (env_ok e_flush_ok) mixed Tryd.func60 rfl escCon (by
  intro ags M K h
  unfold escCon at h
  simp only at h
  split at h
  · rename_i b st pt it tx ps l
    refine ⟨cfgM, ?_⟩
    show evFn (env e_flush) _ _ [.ptr 0 0, .int .u8 b] [.flat [.i st, .s pt, .own 1, .s it, .s tx, .own 2], ints ps, .arr (.vev 100 95 76 102) l] _
    rw [esc_vc]
    obtain ⟨hp, h⟩ := h
    repeat' first
      | (apply Exists.intro (Prod.mk (Parse.mk _ _ _ _ _) _); dsimp only; refine ⟨rfl, rfl, rfl, rfl, rfl, rfl, ?_⟩; refine h _ ?_)
      | assumption
      | exact rfl
      | (refine ⟨_, fun _ => rfl, ?_⟩)
      | (rintro _ rfl; try dsimp only)
      | apply And.intro
      | intro _
      | apply Exists.intro
    all_goals (clear h; try simp only [strBytes_size, ByteArray.size_append, List.length_append, List.length_cons, List.length_nil, Nat.zero_add, Bool.and_eq_true, Bool.or_eq_true, Bool.and_eq_false_iff, Bool.or_eq_false_iff, decide_eq_true_eq, decide_eq_false_iff_not, Bool.not_eq_true', Bool.not_eq_eq_eq_not, Bool.not_true, Bool.not_false, true_and, and_true, Int.toNat_natCast, not_true_eq_false, not_false_eq_true, ne_eq, eq_self] at *)
    all_goals first
      | omega
      | ((unfold escS; (try dsimp only); repeat' split) <;> first | rfl | (simp [strBytes]; done) | (exfalso; omega))
  · exact h.elim)
noncomputable def e_esc : List (FuncId × Con) := (60, escCon) :: e_flush
theorem e_esc_ok : ConsOk Tryd.prog (look e_esc) := cons_cons e_flush_ok esc_ok
noncomputable def interCon : Con := ⟨[.m, .v], fun ags M K => match ags, M with
  | [.ptr 0 0, .val (.int .u8 b)], [.flat [.val (.int .i64 st), .val (.string pt), .own 1, .val (.string it), .val (.string tx), .own 2], .arr (.int .i64) ps, .arr (.vev 100 95 76 102) l] => (l.length ≤ 100000 ∧ it.size ≤ 100) ∧ ∀ r : Parse × List Vev, r = ((interS ⟨st, pt, ps, it, tx⟩ b).1, l ++ (interS ⟨st, pt, ps, it, tx⟩ b).2) → K (.tup []) (MO r.1 r.2)
  | _, _ => False⟩
theorem inter_vc (b st : Int) (pt it tx : ByteArray) (ps : List Int) (l : List Vev) (K : AV → List Blk → Prop) : (evFn (env e_esc) Tryd.f61 (cfgM) [.ptr 0 0, .int .u8 b] [.flat [.i st, .s pt, .own 1, .s it, .s tx, .own 2], ints ps, .arr (.vev 100 95 76 102) l] K) = (
  (decide (b < (32 : Int)) = true → (l.length + [Vev.control b].length ≤ 140737488355328 ∧ (l.length + [Vev.control b].length) * 16 ≤ 140737488355328) ∧ ∃ (x : Parse × List
  Vev), st = x.fst.state ∧ pt = x.fst.part ∧ it = x.fst.inter ∧ tx = x.fst.text ∧ ps = x.fst.params ∧ l ++ [Vev.control b] = x.snd ∧ Leaf rtM K x) ∧ (decide (b < (32 :
  Int)) = false → (decide (b ≤ (47 : Int)) = true → (decide ((↑it.size : Int) < (3 : Int)) = true → it.size + (strBytes [b]).size ≤ 4611686018427387904 ∧ ∃ (x : Parse ×
  List Vev), st = x.fst.state ∧ pt = x.fst.part ∧ it ++ strBytes [b] = x.fst.inter ∧ tx = x.fst.text ∧ ps = x.fst.params ∧ l = x.snd ∧ Leaf rtM K x) ∧ (decide ((↑it.size :
  Int) < (3 : Int)) = false → ∃ (x : Parse × List Vev), st = x.fst.state ∧ pt = x.fst.part ∧ it = x.fst.inter ∧ tx = x.fst.text ∧ ps = x.fst.params ∧ l = x.snd ∧ Leaf rtM K
  x)) ∧ (decide (b ≤ (47 : Int)) = false → (decide (b < (127 : Int)) = true → (l.length + [Vev.sequence false b [] it].length ≤ 140737488355328 ∧ (l.length + [Vev.sequence
  false b [] it].length) * 16 ≤ 140737488355328) ∧ True ∧ ∀ (r : Parse × List Vev), r = (P0 (0 : Int), l ++ [Vev.sequence false b [] it]) → ∃ (x : Parse × List Vev),
  r.fst.state = x.fst.state ∧ r.fst.part = x.fst.part ∧ r.fst.inter = x.fst.inter ∧ r.fst.text = x.fst.text ∧ r.fst.params = x.fst.params ∧ r.snd = x.snd ∧ Leaf rtM K x) ∧
  (decide (b < (127 : Int)) = false → (decide ((127 : Int) < b) = true → True ∧ ∀ (r : Parse × List Vev), r = (P0 (0 : Int), l) → ∃ (x : Parse × List Vev), r.fst.state =
  x.fst.state ∧ r.fst.part = x.fst.part ∧ r.fst.inter = x.fst.inter ∧ r.fst.text = x.fst.text ∧ r.fst.params = x.fst.params ∧ r.snd = x.snd ∧ Leaf rtM K x) ∧ (decide ((127
  : Int) < b) = false → ∃ (x : Parse × List Vev), st = x.fst.state ∧ pt = x.fst.part ∧ it = x.fst.inter ∧ tx = x.fst.text ∧ ps = x.fst.params ∧ l = x.snd ∧ Leaf rtM K x))))) := by kernel_rfl

theorem inter_ok : ConOk Tryd.prog 61 interCon := fn_ok2 (env_ok e_esc_ok) mixed Tryd.func61 rfl interCon (by
  intro ags M K h
  unfold interCon at h
  simp only at h
  split at h
  · rename_i b st pt it tx ps l
    refine ⟨cfgM, ?_⟩
    show evFn (env e_esc) _ _ [.ptr 0 0, .int .u8 b] [.flat [.i st, .s pt, .own 1, .s it, .s tx, .own 2], ints ps, .arr (.vev 100 95 76 102) l] _
    rw [inter_vc]
    obtain ⟨hp, h⟩ := h
    repeat' first
      | (apply Exists.intro (Prod.mk (Parse.mk _ _ _ _ _) _); dsimp only; refine ⟨rfl, rfl, rfl, rfl, rfl, rfl, ?_⟩; refine h _ ?_)
      | assumption
      | exact rfl
      | (refine ⟨_, fun _ => rfl, ?_⟩)
      | (rintro _ rfl; try dsimp only)
      | apply And.intro
      | intro _
      | apply Exists.intro
    all_goals (clear h; try simp only [strBytes_size, ByteArray.size_append, List.length_append, List.length_cons, List.length_nil, Nat.zero_add, Bool.and_eq_true, Bool.or_eq_true, Bool.and_eq_false_iff, Bool.or_eq_false_iff, decide_eq_true_eq, decide_eq_false_iff_not, Bool.not_eq_true', Bool.not_eq_eq_eq_not, Bool.not_true, Bool.not_false, true_and, and_true, Int.toNat_natCast, not_true_eq_false, not_false_eq_true, ne_eq, eq_self] at *)
    all_goals first
      | omega
      | ((unfold interS; (try dsimp only); repeat' split) <;> first | rfl | (simp [strBytes]; done) | (exfalso; omega))
  · exact h.elim)
noncomputable def e_inter : List (FuncId × Con) := (61, interCon) :: e_esc
theorem e_inter_ok : ConsOk Tryd.prog (look e_inter) := cons_cons e_esc_ok inter_ok
noncomputable def skipCon : Con := ⟨[.m, .v], fun ags M K => match ags, M with
  | [.ptr 0 0, .val (.int .u8 b)], [.flat [.val (.int .i64 st), .val (.string pt), .own 1, .val (.string it), .val (.string tx), .own 2], .arr (.int .i64) ps, .arr (.vev 100 95 76 102) l] => (l.length ≤ 100000) ∧ ∀ r : Parse × List Vev, r = ((skipS ⟨st, pt, ps, it, tx⟩ b).1, l ++ (skipS ⟨st, pt, ps, it, tx⟩ b).2) → K (.tup []) (MO r.1 r.2)
  | _, _ => False⟩
theorem skip_vc (b st : Int) (pt it tx : ByteArray) (ps : List Int) (l : List Vev) (K : AV → List Blk → Prop) : (evFn (env e_inter) Tryd.f63 (cfgM) [.ptr 0 0, .int .u8 b] [.flat [.i st, .s pt, .own 1, .s it, .s tx, .own 2], ints ps, .arr (.vev 100 95 76 102) l] K) = (
  (decide (b < (32 : Int)) = true → (l.length + [Vev.control b].length ≤ 140737488355328 ∧ (l.length + [Vev.control b].length) * 16 ≤ 140737488355328) ∧ ∃ (x : Parse × List
  Vev), st = x.fst.state ∧ pt = x.fst.part ∧ it = x.fst.inter ∧ tx = x.fst.text ∧ ps = x.fst.params ∧ l ++ [Vev.control b] = x.snd ∧ Leaf rtM K x) ∧ (decide (b < (32 :
  Int)) = false → ∃ (b_1 : Bool), (decide ((64 : Int) ≤ b) = true → (!decide (b = (127 : Int))) = b_1) ∧ ((decide ((64 : Int) ≤ b) && b_1) = true → True ∧ ∀ (r : Parse ×
  List Vev), r = (P0 (0 : Int), l) → ∃ (x : Parse × List Vev), r.fst.state = x.fst.state ∧ r.fst.part = x.fst.part ∧ r.fst.inter = x.fst.inter ∧ r.fst.text = x.fst.text ∧
  r.fst.params = x.fst.params ∧ r.snd = x.snd ∧ Leaf rtM K x) ∧ ((decide ((64 : Int) ≤ b) && b_1) = false → ∃ (x : Parse × List Vev), st = x.fst.state ∧ pt = x.fst.part ∧
  it = x.fst.inter ∧ tx = x.fst.text ∧ ps = x.fst.params ∧ l = x.snd ∧ Leaf rtM K x))) := by kernel_rfl

theorem skip_ok : ConOk Tryd.prog 63 skipCon := fn_ok2 (env_ok e_inter_ok) mixed Tryd.func63 rfl skipCon (by
  intro ags M K h
  unfold skipCon at h
  simp only at h
  split at h
  · rename_i b st pt it tx ps l
    refine ⟨cfgM, ?_⟩
    show evFn (env e_inter) _ _ [.ptr 0 0, .int .u8 b] [.flat [.i st, .s pt, .own 1, .s it, .s tx, .own 2], ints ps, .arr (.vev 100 95 76 102) l] _
    rw [skip_vc]
    obtain ⟨hp, h⟩ := h
    repeat' first
      | (apply Exists.intro (Prod.mk (Parse.mk _ _ _ _ _) _); dsimp only; refine ⟨rfl, rfl, rfl, rfl, rfl, rfl, ?_⟩; refine h _ ?_)
      | assumption
      | exact rfl
      | (refine ⟨_, fun _ => rfl, ?_⟩)
      | (rintro _ rfl; try dsimp only)
      | apply And.intro
      | intro _
      | apply Exists.intro
    all_goals (clear h; try simp only [strBytes_size, ByteArray.size_append, List.length_append, List.length_cons, List.length_nil, Nat.zero_add, Bool.and_eq_true, Bool.or_eq_true, Bool.and_eq_false_iff, Bool.or_eq_false_iff, decide_eq_true_eq, decide_eq_false_iff_not, Bool.not_eq_true', Bool.not_eq_eq_eq_not, Bool.not_true, Bool.not_false, true_and, and_true, Int.toNat_natCast, not_true_eq_false, not_false_eq_true, ne_eq, eq_self] at *)
    all_goals first
      | omega
      | ((unfold skipS; (try dsimp only); repeat' split) <;> first | rfl | (simp [strBytes]; done) | (exfalso; omega))
  · exact h.elim)
noncomputable def e_skip : List (FuncId × Con) := (63, skipCon) :: e_inter
theorem e_skip_ok : ConsOk Tryd.prog (look e_skip) := cons_cons e_inter_ok skip_ok
end Go.Cx
end
section
namespace Go.Cx
open Go Go.Sx Go.Proofs
set_option maxRecDepth 100000
set_option maxHeartbeats 0
def parLp (p : Parse) (b : Int) (l : List Vev) : Lp := { X := List Int, fr := fun _ => [(0, .ptr 0 0), (1, .int .u8 b), (4, .ptr 0 0)], M := fun x => [.flat [.i p.state, .s p.part, .own 3, .s p.inter, .s p.text, .own 2], .dead, vevs l, ints x], inv := fun x => x = par1 p b, mu := fun _ => 0 }
theorem par1_ok {p : Parse} {b : Int} (h : p.params.length ≤ 16) (hv : ∀ v ∈ (p.params : List Int), -1 ≤ v ∧ v ≤ 9999) : (par1 p b).length ≤ 16 ∧ (∀ v ∈ par1 p b, -1 ≤ v ∧ v ≤ 9999) ∧ (b ≤ 59 → 1 ≤ (par1 p b).length) := by
  unfold par1
  split
  · rename_i hc
    refine ⟨by simp; omega, fun v hv' => ?_, fun _ => by simp⟩
    rcases List.mem_append.1 hv' with hv' | hv'
    · exact hv v hv'
    · simp at hv'; omega
  · refine ⟨h, hv, fun hb => ?_⟩
    omega
noncomputable def paramCon : Con := ⟨[.m, .v], fun ags M K => match ags, M with
  | [.ptr 0 0, .val (.int .u8 b)], [.flat [.val (.int .i64 st), .val (.string pt), .own 1, .val (.string it), .val (.string tx), .own 2], .arr (.int .i64) ps, .arr (.vev 100 95 76 102) l] => (l.length ≤ 100000 ∧ it.size ≤ 100 ∧ 48 ≤ b ∧ b ≤ 63 ∧ ps.length ≤ 16 ∧ ∀ v ∈ (ps : List Int), -1 ≤ v ∧ v ≤ 9999) ∧ ∀ r : Parse × List Vev, r = (paramS ⟨st, pt, ps, it, tx⟩ b, l) → K (.tup []) (MO r.1 r.2)
  | _, _ => False⟩
theorem param_vc (b st : Int) (pt it tx : ByteArray) (ps : List Int) (l : List Vev) (K : AV → List Blk → Prop) : (evFn (env e_skip) Tryd.f76 ({ cfgM with ct := fun r => match r with | 3 => some (parLp ⟨st, pt, ps, it, tx⟩ b l) | _ => none, jn := fun r => match r with | 5 => some 40 | _ => none }) [.ptr 0 0, .int .u8 b] [.flat [.i st, .s pt, .own 1, .s it, .s tx, .own 2], ints ps, .arr (.vev 100 95 76 102) l] K) = (
  (∃ (b_1 : Bool), (decide (b ≤ (59 : Int)) = true → decide ((↑ps.length : Int) = (0 : Int)) = b_1) ∧ ((decide (b ≤ (59 : Int)) && b_1) = true → (ps.length + 1 ≤
  140737488355328 ∧ (ps.length + 1) * 8 ≤ 140737488355328) ∧ ∃ (s : List Int), s = par1 (Parse.mk st pt ps it tx) b ∧ st = st ∧ pt = pt ∧ it = it ∧ tx = tx ∧ l = l ∧ ps ++
  [(-1 : Int)] = s ∧ 0 = 0 ∧ b = b ∧ 0 = 0 ∧ True) ∧ ((decide (b ≤ (59 : Int)) && b_1) = false → ∃ (s : List Int), s = par1 (Parse.mk st pt ps it tx) b ∧ st = st ∧ pt = pt
  ∧ it = it ∧ tx = tx ∧ l = l ∧ ps = s ∧ 0 = 0 ∧ b = b ∧ 0 = 0 ∧ True)) ∧ ∀ (s : List Int), s = par1 (Parse.mk st pt ps it tx) b → ∃ (c : Bool), (((!decide (it =
  ByteArray.mk #[])) = true → ((0 : Int) ≤ IntKind.i64.wrap ((↑it.size : Int) - (1 : Int)) ∧ IntKind.i64.wrap ((↑it.size : Int) - (1 : Int)) < (↑it.size : Int)) ∧ Same
  [Blk.flat [AV.val (Value.int IntKind.i64 (Parse.mk st pt ps it tx).state), AV.val (Value.string (Parse.mk st pt ps it tx).part), AV.own 3, AV.val (Value.string (Parse.mk
  st pt ps it tx).inter), AV.val (Value.string (Parse.mk st pt ps it tx).text), AV.own 2], Blk.dead, Blk.arr (Kd.vev 100 95 76 102) l, Blk.arr (Kd.int IntKind.i64) s]
  [Blk.flat [AV.val (Value.int IntKind.i64 (Parse.mk st pt ps it tx).state), AV.val (Value.string (Parse.mk st pt ps it tx).part), AV.own 3, AV.val (Value.string (Parse.mk
  st pt ps it tx).inter), AV.val (Value.string (Parse.mk st pt ps it tx).text), AV.own 2], Blk.dead, Blk.arr (Kd.vev 100 95 76 102) l, Blk.arr (Kd.int IntKind.i64) s] ∧
  decide (bt it (IntKind.i64.wrap ((↑it.size : Int) - (1 : Int))).toNat ≤ (47 : Int)) = c) ∧ ((!decide (it = ByteArray.mk #[])) = false → Same [Blk.flat [AV.val (Value.int
  IntKind.i64 (Parse.mk st pt ps it tx).state), AV.val (Value.string (Parse.mk st pt ps it tx).part), AV.own 3, AV.val (Value.string (Parse.mk st pt ps it tx).inter),
  AV.val (Value.string (Parse.mk st pt ps it tx).text), AV.own 2], Blk.dead, Blk.arr (Kd.vev 100 95 76 102) l, Blk.arr (Kd.int IntKind.i64) s] [Blk.flat [AV.val (Value.int
  IntKind.i64 (Parse.mk st pt ps it tx).state), AV.val (Value.string (Parse.mk st pt ps it tx).part), AV.own 3, AV.val (Value.string (Parse.mk st pt ps it tx).inter),
  AV.val (Value.string (Parse.mk st pt ps it tx).text), AV.own 2], Blk.dead, Blk.arr (Kd.vev 100 95 76 102) l, Blk.arr (Kd.int IntKind.i64) s] ∧ false = c)) ∧ (c = true →
  True ∧ ∀ (r : Parse × List Vev), r = (P0 (4 : Int), l) → ∃ (x : Parse × List Vev), r.fst.state = x.fst.state ∧ r.fst.part = x.fst.part ∧ r.fst.inter = x.fst.inter ∧
  r.fst.text = x.fst.text ∧ r.fst.params = x.fst.params ∧ r.snd = x.snd ∧ Leaf rtM K x) ∧ (c = false → (decide (b ≤ (57 : Int)) = true → ((0 : Int) ≤ IntKind.i64.wrap
  ((↑s.length : Int) - (1 : Int)) ∧ IntKind.i64.wrap ((↑s.length : Int) - (1 : Int)) < (↑s.length : Int)) ∧ (IntKind.i64.wrap ((↑s.length : Int) - (1 : Int))).toNat <
  s.length ∧ ((0 : Int) ≤ IntKind.i64.wrap ((↑s.length : Int) - (1 : Int)) ∧ IntKind.i64.wrap ((↑s.length : Int) - (1 : Int)) < (↑s.length : Int)) ∧ (IntKind.i64.wrap
  ((↑s.length : Int) - (1 : Int))).toNat < s.length ∧ ∃ (x : Parse × List Vev), st = x.fst.state ∧ pt = x.fst.part ∧ it = x.fst.inter ∧ tx = x.fst.text ∧ s.set
  (IntKind.i64.wrap ((↑s.length : Int) - (1 : Int))).toNat (min (9999 : Int) (IntKind.i64.wrap (IntKind.i64.wrap (max (0 : Int) (gt (Kd.int IntKind.i64) s (IntKind.i64.wrap
  ((↑s.length : Int) - (1 : Int))).toNat) * (10 : Int)) + IntKind.i64.wrap (IntKind.u8.wrap (b - (48 : Int)))))) = x.fst.params ∧ l = x.snd ∧ Leaf rtM K x) ∧ (decide (b ≤
  (57 : Int)) = false → (decide (b ≤ (59 : Int)) = true → (decide (IntKind.i64.wrap (IntKind.i64.wrap ((↑s.length : Int) - (1 : Int)) + (1 : Int)) = (16 : Int)) = true →
  True ∧ ∀ (r : Parse × List Vev), r = (P0 (4 : Int), l) → ∃ (x : Parse × List Vev), r.fst.state = x.fst.state ∧ r.fst.part = x.fst.part ∧ r.fst.inter = x.fst.inter ∧
  r.fst.text = x.fst.text ∧ r.fst.params = x.fst.params ∧ r.snd = x.snd ∧ Leaf rtM K x) ∧ (decide (IntKind.i64.wrap (IntKind.i64.wrap ((↑s.length : Int) - (1 : Int)) + (1 :
  Int)) = (16 : Int)) = false → (s.length + 1 ≤ 140737488355328 ∧ (s.length + 1) * 8 ≤ 140737488355328) ∧ ∃ (x : Parse × List Vev), st = x.fst.state ∧ pt = x.fst.part ∧ it
  = x.fst.inter ∧ tx = x.fst.text ∧ s ++ [(-1 : Int)] = x.fst.params ∧ l = x.snd ∧ Leaf rtM K x)) ∧ (decide (b ≤ (59 : Int)) = false → ∃ (b_1 : Bool), (decide ((0 : Int) ≤
  IntKind.i64.wrap ((↑s.length : Int) - (1 : Int))) = false → (!decide (it = ByteArray.mk #[])) = b_1) ∧ ((decide ((0 : Int) ≤ IntKind.i64.wrap ((↑s.length : Int) - (1 :
  Int))) || b_1) = true → True ∧ ∀ (r : Parse × List Vev), r = (P0 (4 : Int), l) → ∃ (x : Parse × List Vev), r.fst.state = x.fst.state ∧ r.fst.part = x.fst.part ∧
  r.fst.inter = x.fst.inter ∧ r.fst.text = x.fst.text ∧ r.fst.params = x.fst.params ∧ r.snd = x.snd ∧ Leaf rtM K x) ∧ ((decide ((0 : Int) ≤ IntKind.i64.wrap ((↑s.length :
  Int) - (1 : Int))) || b_1) = false → ∃ (x : Parse × List Vev), st = x.fst.state ∧ pt = x.fst.part ∧ strBytes [b] = x.fst.inter ∧ tx = x.fst.text ∧ s = x.fst.params ∧ l =
  x.snd ∧ Leaf rtM K x))))) := by kernel_rfl

theorem param_ok : ConOk Tryd.prog 76 paramCon := fn_ok2 (env_ok e_skip_ok) mixed Tryd.func76 rfl paramCon (by
  intro ags M K h
  unfold paramCon at h
  simp only at h
  split at h
  · rename_i b st pt it tx ps l
    refine ⟨{ cfgM with ct := fun r => match r with | 3 => some (parLp ⟨st, pt, ps, it, tx⟩ b l) | _ => none, jn := fun r => match r with | 5 => some 40 | _ => none }, ?_⟩
    show evFn (env e_skip) _ _ [.ptr 0 0, .int .u8 b] [.flat [.i st, .s pt, .own 1, .s it, .s tx, .own 2], ints ps, .arr (.vev 100 95 76 102) l] _
    rw [param_vc]
    obtain ⟨hp, h⟩ := h
    obtain ⟨p1, p2, p3, p4, p5, p6⟩ := hp
    refine ⟨⟨_, fun _ => rfl, fun h1 => ⟨⟨by omega, by omega⟩, _, ?_, rfl, rfl, rfl, rfl, rfl, rfl, rfl, rfl, rfl, trivial⟩, fun h1 => ⟨_, ?_, rfl, rfl, rfl, rfl, rfl, rfl, rfl, rfl, rfl, trivial⟩⟩, ?_⟩
    · simp only [strBytes_size, ByteArray.size_append, List.length_append, List.length_cons, List.length_nil, Nat.zero_add, Bool.and_eq_true, Bool.or_eq_true, Bool.and_eq_false_iff, Bool.or_eq_false_iff, decide_eq_true_eq, decide_eq_false_iff_not, Bool.not_eq_true', Bool.not_eq_eq_eq_not, Bool.not_true, Bool.not_false, true_and, and_true, Int.toNat_natCast, not_true_eq_false, not_false_eq_true, ne_eq, eq_self] at h1
      simp only [par1]
      rw [if_pos (by omega)]
    · simp only [strBytes_size, ByteArray.size_append, List.length_append, List.length_cons, List.length_nil, Nat.zero_add, Bool.and_eq_true, Bool.or_eq_true, Bool.and_eq_false_iff, Bool.or_eq_false_iff, decide_eq_true_eq, decide_eq_false_iff_not, Bool.not_eq_true', Bool.not_eq_eq_eq_not, Bool.not_true, Bool.not_false, true_and, and_true, Int.toNat_natCast, not_true_eq_false, not_false_eq_true, ne_eq, eq_self] at h1
      simp only [par1]
      rw [if_neg (by omega)]
    · intro s hs
      obtain ⟨q1, q2, q3⟩ := par1_ok (p := ⟨st, pt, ps, it, tx⟩) (b := b) p5 p6
      rw [← hs] at q1 q2 q3
      have e0 : it = ⟨#[]⟩ ↔ it.size = 0 := size_zero
      have hw : IntKind.i64.wrap ((s.length : Int) - 1) = (s.length : Int) - 1 := w64 (by omega)
      have hw1 : IntKind.i64.wrap ((it.size : Int) - 1) = (it.size : Int) - 1 := w64 (by omega)
      have ht1 : ((it.size : Int) - 1).toNat = it.size - 1 := by omega
      have ht2 : ((s.length : Int) - 1).toNat = s.length - 1 := by omega
      have hw2 : IntKind.i64.wrap ((s.length : Int) - 1 + 1) = s.length := by rw [w64 (by omega)]; omega
      rw [hw, hw1, ht1, ht2, hw2]
      refine ⟨decide (it ≠ E0 ∧ bt it (it.size - 1) ≤ 47), ⟨fun h1 => ⟨⟨?_, ?_⟩, rfl, ?_⟩, fun h1 => ⟨rfl, ?_⟩⟩, ?_, ?_⟩
      · simp only [strBytes_size, ByteArray.size_append, List.length_append, List.length_cons, List.length_nil, Nat.zero_add, Bool.and_eq_true, Bool.or_eq_true, Bool.and_eq_false_iff, Bool.or_eq_false_iff, decide_eq_true_eq, decide_eq_false_iff_not, Bool.not_eq_true', Bool.not_eq_eq_eq_not, Bool.not_true, Bool.not_false, true_and, and_true, Int.toNat_natCast, not_true_eq_false, not_false_eq_true, ne_eq, eq_self] at h1
        rw [e0] at h1; omega
      · omega
      · simp only [strBytes_size, ByteArray.size_append, List.length_append, List.length_cons, List.length_nil, Nat.zero_add, Bool.and_eq_true, Bool.or_eq_true, Bool.and_eq_false_iff, Bool.or_eq_false_iff, decide_eq_true_eq, decide_eq_false_iff_not, Bool.not_eq_true', Bool.not_eq_eq_eq_not, Bool.not_true, Bool.not_false, true_and, and_true, Int.toNat_natCast, not_true_eq_false, not_false_eq_true, ne_eq, eq_self] at h1
        simp [E0, h1]
      · simp only [strBytes_size, ByteArray.size_append, List.length_append, List.length_cons, List.length_nil, Nat.zero_add, Bool.and_eq_true, Bool.or_eq_true, Bool.and_eq_false_iff, Bool.or_eq_false_iff, decide_eq_true_eq, decide_eq_false_iff_not, Bool.not_eq_true', Bool.not_eq_eq_eq_not, Bool.not_true, Bool.not_false, true_and, and_true, Int.toNat_natCast, not_true_eq_false, not_false_eq_true, ne_eq, eq_self] at h1
        have h1 : it = E0 := by simpa using h1
        simp [h1]
      · intro hc
        refine ⟨trivial, ?_⟩
        rintro _ rfl
        apply Exists.intro (Prod.mk (Parse.mk _ _ _ _ _) _); dsimp only; refine ⟨rfl, rfl, rfl, rfl, rfl, rfl, ?_⟩
        refine h _ ?_
        simp only [strBytes_size, ByteArray.size_append, List.length_append, List.length_cons, List.length_nil, Nat.zero_add, Bool.and_eq_true, Bool.or_eq_true, Bool.and_eq_false_iff, Bool.or_eq_false_iff, decide_eq_true_eq, decide_eq_false_iff_not, Bool.not_eq_true', Bool.not_eq_eq_eq_not, Bool.not_true, Bool.not_false, true_and, and_true, Int.toNat_natCast, not_true_eq_false, not_false_eq_true, ne_eq, eq_self] at hc
        rw [paramS, if_pos hc]
      · intro hc
        simp only [strBytes_size, ByteArray.size_append, List.length_append, List.length_cons, List.length_nil, Nat.zero_add, Bool.and_eq_true, Bool.or_eq_true, Bool.and_eq_false_iff, Bool.or_eq_false_iff, decide_eq_true_eq, decide_eq_false_iff_not, Bool.not_eq_true', Bool.not_eq_eq_eq_not, Bool.not_true, Bool.not_false, true_and, and_true, Int.toNat_natCast, not_true_eq_false, not_false_eq_true, ne_eq, eq_self] at hc
        refine ⟨fun h2 => ?_, fun h2 => ⟨fun h3 => ⟨fun h4 => ?_, fun h4 => ?_⟩, fun h3 => ⟨_, fun _ => rfl, fun h4 => ?_, fun h4 => ?_⟩⟩⟩
        · have h2 : b ≤ 57 := of_decide_eq_true h2
          have hp1 := q3 (by omega)
          have hv := q2 _ (List.mem_of_getElem? (gt_lt (k := .int .i64) (xs := s) (i := s.length - 1) (by omega)))
          refine ⟨⟨by omega, by omega⟩, by omega, ⟨by omega, by omega⟩, by omega, ?_⟩
          apply Exists.intro (Prod.mk (Parse.mk _ _ _ _ _) _); dsimp only; refine ⟨rfl, rfl, rfl, rfl, rfl, rfl, ?_⟩
          refine h _ ?_
          rw [paramS, if_neg hc, ← hs, if_pos h2]
          have e1 : IntKind.u8.wrap (b - 48) = b - 48 := by simp [IntKind.wrap, IntKind.bits, IntKind.signed]; omega
          have e2 : IntKind.i64.wrap (b - 48) = b - 48 := w64 (by omega)
          have e3 : IntKind.i64.wrap (max 0 (gt (.int .i64) s (s.length - 1)) * 10) = max 0 (gt (.int .i64) s (s.length - 1)) * 10 := w64 (by omega)
          have e4 : IntKind.i64.wrap (max 0 (gt (.int .i64) s (s.length - 1)) * 10 + (b - 48)) = max 0 (gt (.int .i64) s (s.length - 1)) * 10 + (b - 48) := w64 (by omega)
          rw [e1, e2, e3, e4]
        · have h2 : ¬ b ≤ 57 := of_decide_eq_false h2
          have h3 : b ≤ 59 := of_decide_eq_true h3
          have h4 : (s.length : Int) = 16 := of_decide_eq_true h4
          refine ⟨trivial, ?_⟩
          rintro _ rfl
          apply Exists.intro (Prod.mk (Parse.mk _ _ _ _ _) _); dsimp only; refine ⟨rfl, rfl, rfl, rfl, rfl, rfl, ?_⟩
          refine h _ ?_
          rw [paramS, if_neg hc, ← hs, if_neg h2, if_pos h3, if_pos (by omega)]
        · have h2 : ¬ b ≤ 57 := of_decide_eq_false h2
          have h3 : b ≤ 59 := of_decide_eq_true h3
          have h4 : ¬ (s.length : Int) = 16 := of_decide_eq_false h4
          refine ⟨⟨by omega, by omega⟩, ?_⟩
          apply Exists.intro (Prod.mk (Parse.mk _ _ _ _ _) _); dsimp only; refine ⟨rfl, rfl, rfl, rfl, rfl, rfl, ?_⟩
          refine h _ ?_
          rw [paramS, if_neg hc, ← hs, if_neg h2, if_pos h3, if_neg (by omega)]
        · have h2 : ¬ b ≤ 57 := of_decide_eq_false h2
          have h3 : ¬ b ≤ 59 := of_decide_eq_false h3
          simp only [strBytes_size, ByteArray.size_append, List.length_append, List.length_cons, List.length_nil, Nat.zero_add, Bool.and_eq_true, Bool.or_eq_true, Bool.and_eq_false_iff, Bool.or_eq_false_iff, decide_eq_true_eq, decide_eq_false_iff_not, Bool.not_eq_true', Bool.not_eq_eq_eq_not, Bool.not_true, Bool.not_false, true_and, and_true, Int.toNat_natCast, not_true_eq_false, not_false_eq_true, ne_eq, eq_self] at h4
          refine ⟨trivial, ?_⟩
          rintro _ rfl
          apply Exists.intro (Prod.mk (Parse.mk _ _ _ _ _) _); dsimp only; refine ⟨rfl, rfl, rfl, rfl, rfl, rfl, ?_⟩
          refine h _ ?_
          rw [paramS, if_neg hc, ← hs, if_neg h2, if_neg h3, if_pos (by rcases h4 with h4 | h4; exact .inl (by omega); exact .inr h4)]
        · have h2 : ¬ b ≤ 57 := of_decide_eq_false h2
          have h3 : ¬ b ≤ 59 := of_decide_eq_false h3
          simp only [strBytes_size, ByteArray.size_append, List.length_append, List.length_cons, List.length_nil, Nat.zero_add, Bool.and_eq_true, Bool.or_eq_true, Bool.and_eq_false_iff, Bool.or_eq_false_iff, decide_eq_true_eq, decide_eq_false_iff_not, Bool.not_eq_true', Bool.not_eq_eq_eq_not, Bool.not_true, Bool.not_false, true_and, and_true, Int.toNat_natCast, not_true_eq_false, not_false_eq_true, ne_eq, eq_self] at h4
          apply Exists.intro (Prod.mk (Parse.mk _ _ _ _ _) _); dsimp only; refine ⟨rfl, rfl, rfl, rfl, rfl, rfl, ?_⟩
          refine h _ ?_
          rw [paramS, if_neg hc, ← hs, if_neg h2, if_neg h3, if_neg (by rintro (e | e); exact h4.1 (by omega); exact e h4.2)]
  · exact h.elim)
noncomputable def e_param : List (FuncId × Con) := (76, paramCon) :: e_skip
theorem e_param_ok : ConsOk Tryd.prog (look e_param) := cons_cons e_skip_ok param_ok
noncomputable def toICon : Con := ⟨[.m, .v], fun ags M K => evFn (env e_param) Tryd.f58 (cfg1) ags M K⟩
theorem toI_ok : ConOk Tryd.prog 58 toICon := fn_ok (env_ok e_param_ok) mixed Tryd.func58 rfl toICon (cfg1) (fun _ _ _ h => h)
noncomputable def e_toI : List (FuncId × Con) := (58, toICon) :: e_param
theorem e_toI_ok : ConsOk Tryd.prog (look e_toI) := cons_cons e_param_ok toI_ok
noncomputable def csiCon : Con := ⟨[.m, .v], fun ags M K => match ags, M with
  | [.ptr 0 0, .val (.int .u8 b)], [.flat [.val (.int .i64 st), .val (.string pt), .own 1, .val (.string it), .val (.string tx), .own 2], .arr (.int .i64) ps, .arr (.vev 100 95 76 102) l] => (l.length ≤ 100000 ∧ it.size ≤ 100 ∧ ps.length ≤ 16 ∧ ∀ v ∈ (ps : List Int), -1 ≤ v ∧ v ≤ 9999) ∧ ∀ r : Parse × List Vev, r = ((csiS ⟨st, pt, ps, it, tx⟩ b).1, l ++ (csiS ⟨st, pt, ps, it, tx⟩ b).2) → K (.tup []) (MO r.1 r.2)
  | _, _ => False⟩
theorem csi_vc (b st : Int) (pt it tx : ByteArray) (ps : List Int) (l : List Vev) (K : AV → List Blk → Prop) : (evFn (env e_toI) Tryd.f62 ({ cfgM with fb := fun r => match r with | 10 => [1] | _ => [] }) [.ptr 0 0, .int .u8 b] [.flat [.i st, .s pt, .own 1, .s it, .s tx, .own 2], ints ps, .arr (.vev 100 95 76 102) l] K) = (
  (decide (b < (32 : Int)) = true → (l.length + [Vev.control b].length ≤ 140737488355328 ∧ (l.length + [Vev.control b].length) * 16 ≤ 140737488355328) ∧ ∃ (x : Parse × List
  Vev), st = x.fst.state ∧ pt = x.fst.part ∧ it = x.fst.inter ∧ tx = x.fst.text ∧ ps = x.fst.params ∧ l ++ [Vev.control b] = x.snd ∧ Leaf rtM K x) ∧ (decide (b < (32 :
  Int)) = false → (decide (b ≤ (47 : Int)) = true → (decide ((↑it.size : Int) = (3 : Int)) = true → ∃ (x : Parse × List Vev), (4 : Int) = x.fst.state ∧ ByteArray.mk #[] =
  x.fst.part ∧ ByteArray.mk #[] = x.fst.inter ∧ ByteArray.mk #[] = x.fst.text ∧ [] = x.fst.params ∧ l = x.snd ∧ Leaf rtM K x) ∧ (decide ((↑it.size : Int) = (3 : Int)) =
  false → it.size + (strBytes [b]).size ≤ 4611686018427387904 ∧ ∃ (x : Parse × List Vev), st = x.fst.state ∧ pt = x.fst.part ∧ it ++ strBytes [b] = x.fst.inter ∧ tx =
  x.fst.text ∧ ps = x.fst.params ∧ l = x.snd ∧ Leaf rtM K x)) ∧ (decide (b ≤ (47 : Int)) = false → (decide (b ≤ (63 : Int)) = true → (l.length ≤ 100000 ∧ it.size ≤ 100 ∧
  (48 : Int) ≤ b ∧ b ≤ (63 : Int) ∧ ps.length ≤ 16 ∧ ∀ (v : El (Kd.int IntKind.i64)), v ∈ ps → (-1 : El (Kd.int IntKind.i64)) ≤ v ∧ v ≤ (9999 : El (Kd.int IntKind.i64))) ∧
  ∀ (r : Parse × List Vev), r = (paramS (Parse.mk st pt ps it tx) b, l) → ∃ (x : Parse × List Vev), r.fst.state = x.fst.state ∧ r.fst.part = x.fst.part ∧ r.fst.inter =
  x.fst.inter ∧ r.fst.text = x.fst.text ∧ r.fst.params = x.fst.params ∧ r.snd = x.snd ∧ Leaf rtM K x) ∧ (decide (b ≤ (63 : Int)) = false → (decide (b < (127 : Int)) = true
  → (l.length + [Vev.sequence true b ps it].length ≤ 140737488355328 ∧ (l.length + [Vev.sequence true b ps it].length) * 16 ≤ 140737488355328) ∧ ∃ (x : Parse × List Vev),
  (0 : Int) = x.fst.state ∧ ByteArray.mk #[] = x.fst.part ∧ ByteArray.mk #[] = x.fst.inter ∧ ByteArray.mk #[] = x.fst.text ∧ [] = x.fst.params ∧ l ++ [Vev.sequence true b
  ps it] = x.snd ∧ Leaf rtM K x) ∧ (decide (b < (127 : Int)) = false → (decide ((127 : Int) < b) = true → ∃ (x : Parse × List Vev), (0 : Int) = x.fst.state ∧ ByteArray.mk
  #[] = x.fst.part ∧ ByteArray.mk #[] = x.fst.inter ∧ ByteArray.mk #[] = x.fst.text ∧ [] = x.fst.params ∧ l = x.snd ∧ Leaf rtM K x) ∧ (decide ((127 : Int) < b) = false → ∃
  (x : Parse × List Vev), st = x.fst.state ∧ pt = x.fst.part ∧ it = x.fst.inter ∧ tx = x.fst.text ∧ ps = x.fst.params ∧ l = x.snd ∧ Leaf rtM K x)))))) := by kernel_rfl

theorem csi_ok : ConOk Tryd.prog 62 csiCon := fn_ok2 (env_ok e_toI_ok) mixed Tryd.func62 rfl csiCon (by
  intro ags M K h
  unfold csiCon at h
  simp only at h
  split at h
  · rename_i b st pt it tx ps l
    refine ⟨{ cfgM with fb := fun r => match r with | 10 => [1] | _ => [] }, ?_⟩
    show evFn (env e_toI) _ _ [.ptr 0 0, .int .u8 b] [.flat [.i st, .s pt, .own 1, .s it, .s tx, .own 2], ints ps, .arr (.vev 100 95 76 102) l] _
    rw [csi_vc]
    obtain ⟨hp, h⟩ := h
    obtain ⟨p1, p2, p3, p4⟩ := hp
    repeat' first
      | (apply Exists.intro (Prod.mk (Parse.mk _ _ _ _ _) _); dsimp only; refine ⟨rfl, rfl, rfl, rfl, rfl, rfl, ?_⟩; refine h _ ?_)
      | assumption
      | exact rfl
      | (refine ⟨_, fun _ => rfl, ?_⟩)
      | (rintro _ rfl; try dsimp only)
      | apply And.intro
      | intro _
      | apply Exists.intro
    all_goals (clear h; try simp only [strBytes_size, ByteArray.size_append, List.length_append, List.length_cons, List.length_nil, Nat.zero_add, Bool.and_eq_true, Bool.or_eq_true, Bool.and_eq_false_iff, Bool.or_eq_false_iff, decide_eq_true_eq, decide_eq_false_iff_not, Bool.not_eq_true', Bool.not_eq_eq_eq_not, Bool.not_true, Bool.not_false, true_and, and_true, Int.toNat_natCast, not_true_eq_false, not_false_eq_true, ne_eq, eq_self] at *)
    all_goals first
      | omega
      | ((unfold csiS; (try dsimp only); repeat' split) <;> first | rfl | (simp [strBytes]; done) | (exfalso; omega))
  · exact h.elim)
noncomputable def e_csi : List (FuncId × Con) := (62, csiCon) :: e_toI
theorem e_csi_ok : ConsOk Tryd.prog (look e_csi) := cons_cons e_toI_ok csi_ok
noncomputable def e_to2 : List (FuncId × Con) := (58, toCon) :: e_csi
theorem e_to2_ok : ConsOk Tryd.prog (look e_to2) := cons_cons e_csi_ok to_ok
theorem flushE_at (st : Int) (pt : ByteArray) (ps : List Int) (it tx : ByteArray) : flushE ⟨st, pt, ps, it, tx⟩ = if pt = E0 then [] else [.printed 65533] := rfl
theorem pr1_snoc {xs : List Int} {i : Nat} (h : i < xs.length) : pr1 (xs.take (i + 1)) = pr1 (xs.take i) ++ (if keepR (gt (.int .i64) xs i) = true then [.printed (gt (.int .i64) xs i)] else []) := by
  have := gt_lt (k := .int .i64) h
  rw [List.take_add_one, this]
  simp only [pr1, List.filter_append, List.map_append, Option.toList_some, List.filter_cons, List.filter_nil]
  split <;> rfl
def grLp (p : Parse) (b : Int) (l : List Vev) : Lp := { X := Nat × List Vev, fr := fun x => [(0, .ptr 0 0), (1, .int .u8 b), (23, .own 3), (24, .i (stepS p.part b).1.length), (25, .i x.1)], M := fun x => [.flat [.i p.state, .s (stepS p.part b).2, .own 1, .s p.inter, .s p.text, .own 4], ints p.params, .dead, ints (stepS p.part b).1, vevs x.2], inv := fun x => x.1 ≤ (stepS p.part b).1.length ∧ x.2 = l ++ pr1 ((stepS p.part b).1.take x.1), mu := fun x => (stepS p.part b).1.length - x.1 }
noncomputable def groundCon : Con := ⟨[.m, .v], fun ags M K => match ags, M with
  | [.ptr 0 0, .val (.int .u8 b)], [.flat [.val (.int .i64 st), .val (.string pt), .own 1, .val (.string it), .val (.string tx), .own 2], .arr (.int .i64) ps, .arr (.vev 100 95 76 102) l] => (l.length ≤ 100000 ∧ 0 ≤ b ∧ b < 256 ∧ pt.size ≤ 100) ∧ ∀ r : Parse × List Vev, r = ((groundS ⟨st, pt, ps, it, tx⟩ b).1, l ++ (groundS ⟨st, pt, ps, it, tx⟩ b).2) → K (.tup []) (MO r.1 r.2)
  | _, _ => False⟩
theorem ground_vc (b st : Int) (pt it tx : ByteArray) (ps : List Int) (l : List Vev) (K : AV → List Blk → Prop) : (evFn (env e_to2) Tryd.f59 ({ cfgM with lp := fun r => match r with | 3 => some (grLp ⟨st, pt, ps, it, tx⟩ b l) | _ => none }) [.ptr 0 0, .int .u8 b] [.flat [.i st, .s pt, .own 1, .s it, .s tx, .own 2], ints ps, .arr (.vev 100 95 76 102) l] K) = (
  (decide (b < (32 : Int)) = true → ((!decide (pt = ByteArray.mk #[])) = true → (l.length + 1 ≤ 140737488355328 ∧ (l.length + 1) * 16 ≤ 140737488355328) ∧ ((l ++
  [Vev.printed (65533 : Int)]).length + [Vev.control b].length ≤ 140737488355328 ∧ ((l ++ [Vev.printed (65533 : Int)]).length + [Vev.control b].length) * 16 ≤
  140737488355328) ∧ ∃ (x : Parse × List Vev), st = x.fst.state ∧ ByteArray.mk #[] = x.fst.part ∧ it = x.fst.inter ∧ tx = x.fst.text ∧ ps = x.fst.params ∧ l ++ [Vev.printed
  (65533 : Int)] ++ [Vev.control b] = x.snd ∧ Leaf rtM K x) ∧ ((!decide (pt = ByteArray.mk #[])) = false → (l.length + [Vev.control b].length ≤ 140737488355328 ∧ (l.length
  + [Vev.control b].length) * 16 ≤ 140737488355328) ∧ ∃ (x : Parse × List Vev), st = x.fst.state ∧ ByteArray.mk #[] = x.fst.part ∧ it = x.fst.inter ∧ tx = x.fst.text ∧ ps =
  x.fst.params ∧ l ++ [Vev.control b] = x.snd ∧ Leaf rtM K x)) ∧ (decide (b < (32 : Int)) = false → (decide (b = (127 : Int)) = true → ((!decide (pt = ByteArray.mk #[])) =
  true → (l.length + 1 ≤ 140737488355328 ∧ (l.length + 1) * 16 ≤ 140737488355328) ∧ ∃ (x : Parse × List Vev), st = x.fst.state ∧ ByteArray.mk #[] = x.fst.part ∧ it =
  x.fst.inter ∧ tx = x.fst.text ∧ ps = x.fst.params ∧ l ++ [Vev.printed (65533 : Int)] = x.snd ∧ Leaf rtM K x) ∧ ((!decide (pt = ByteArray.mk #[])) = false → ∃ (x : Parse ×
  List Vev), st = x.fst.state ∧ ByteArray.mk #[] = x.fst.part ∧ it = x.fst.inter ∧ tx = x.fst.text ∧ ps = x.fst.params ∧ l = x.snd ∧ Leaf rtM K x)) ∧ (decide (b = (127 :
  Int)) = false → (0 ≤ 900000000 ∧ (0 : Int) ≤ b ∧ b < (256 : Int) ∧ pt.size ≤ 1000000) ∧ ∀ (l_1 : List Int) (t : ByteArray), (l_1, t) = stepS pt b → ∃ (x0 : Nat × List
  Vev), (x0.fst ≤ (stepS pt b).fst.length ∧ x0.snd = l ++ pr1 (List.take x0.fst (stepS pt b).fst)) ∧ st = st ∧ t = (stepS pt b).snd ∧ it = it ∧ tx = tx ∧ ps = ps ∧ [] ++
  l_1 = (stepS pt b).fst ∧ l = x0.snd ∧ 0 = 0 ∧ b = b ∧ (↑([] ++ l_1).length : Int) = (↑(stepS pt b).fst.length : Int) ∧ (0 : Int) = (↑x0.fst : Int) ∧ ∀ (x : Nat × List
  Vev), x.fst ≤ (stepS pt b).fst.length ∧ x.snd = l ++ pr1 (List.take x.fst (stepS pt b).fst) → (decide ((↑x.fst : Int) < (↑(stepS pt b).fst.length : Int)) = true → ((0 :
  Int) ≤ (↑x.fst : Int) ∧ (↑x.fst : Int) < (↑(stepS pt b).fst.length : Int)) ∧ (↑x.fst : Int).toNat < (stepS pt b).fst.length ∧ ∃ (b_1 : Bool), (decide (gt (Kd.int
  IntKind.i64) (stepS pt b).fst (↑x.fst : Int).toNat < (128 : Int)) = false → decide ((159 : Int) < gt (Kd.int IntKind.i64) (stepS pt b).fst (↑x.fst : Int).toNat) = b_1) ∧
  ((decide (gt (Kd.int IntKind.i64) (stepS pt b).fst (↑x.fst : Int).toNat < (128 : Int)) || b_1) = true → (x.snd.length + [Vev.printed (gt (Kd.int IntKind.i64) (stepS pt
  b).fst (↑x.fst : Int).toNat)].length ≤ 140737488355328 ∧ (x.snd.length + [Vev.printed (gt (Kd.int IntKind.i64) (stepS pt b).fst (↑x.fst : Int).toNat)].length) * 16 ≤
  140737488355328) ∧ ∃ (x' : Nat × List Vev), ((x'.fst ≤ (stepS pt b).fst.length ∧ x'.snd = l ++ pr1 (List.take x'.fst (stepS pt b).fst)) ∧ (stepS pt b).fst.length - x'.fst
  < (stepS pt b).fst.length - x.fst) ∧ st = st ∧ (stepS pt b).snd = (stepS pt b).snd ∧ it = it ∧ tx = tx ∧ ps = ps ∧ (stepS pt b).fst = (stepS pt b).fst ∧ x.snd ++
  [Vev.printed (gt (Kd.int IntKind.i64) (stepS pt b).fst (↑x.fst : Int).toNat)] = x'.snd ∧ 0 = 0 ∧ b = b ∧ (↑(stepS pt b).fst.length : Int) = (↑(stepS pt b).fst.length :
  Int) ∧ IntKind.i64.wrap ((↑x.fst : Int) + (1 : Int)) = (↑x'.fst : Int) ∧ True) ∧ ((decide (gt (Kd.int IntKind.i64) (stepS pt b).fst (↑x.fst : Int).toNat < (128 : Int)) ||
  b_1) = false → ∃ (x' : Nat × List Vev), ((x'.fst ≤ (stepS pt b).fst.length ∧ x'.snd = l ++ pr1 (List.take x'.fst (stepS pt b).fst)) ∧ (stepS pt b).fst.length - x'.fst <
  (stepS pt b).fst.length - x.fst) ∧ st = st ∧ (stepS pt b).snd = (stepS pt b).snd ∧ it = it ∧ tx = tx ∧ ps = ps ∧ (stepS pt b).fst = (stepS pt b).fst ∧ x.snd = x'.snd ∧ 0
  = 0 ∧ b = b ∧ (↑(stepS pt b).fst.length : Int) = (↑(stepS pt b).fst.length : Int) ∧ IntKind.i64.wrap ((↑x.fst : Int) + (1 : Int)) = (↑x'.fst : Int) ∧ True)) ∧ (decide
  ((↑x.fst : Int) < (↑(stepS pt b).fst.length : Int)) = false → ∃ (x_1 : Parse × List Vev), st = x_1.fst.state ∧ (stepS pt b).snd = x_1.fst.part ∧ it = x_1.fst.inter ∧ tx =
  x_1.fst.text ∧ ps = x_1.fst.params ∧ x.snd = x_1.snd ∧ Leaf rtM K x_1)))) := by kernel_rfl

theorem ground_ok : ConOk Tryd.prog 59 groundCon := fn_ok2 (env_ok e_to2_ok) mixed Tryd.func59 rfl groundCon (by
  intro ags M K h
  unfold groundCon at h
  simp only at h
  split at h
  · rename_i b st pt it tx ps l
    refine ⟨{ cfgM with lp := fun r => match r with | 3 => some (grLp ⟨st, pt, ps, it, tx⟩ b l) | _ => none }, ?_⟩
    show evFn (env e_to2) _ _ [.ptr 0 0, .int .u8 b] [.flat [.i st, .s pt, .own 1, .s it, .s tx, .own 2], ints ps, .arr (.vev 100 95 76 102) l] _
    rw [ground_vc]
    obtain ⟨hp, h⟩ := h
    obtain ⟨p1, p2, p3, p4⟩ := hp
    refine ⟨fun h1 => ?_, fun h1 => ⟨fun h2 => ?_, fun h2 => ⟨⟨by omega, p2, p3, by omega⟩, fun l1 t e => ?_⟩⟩⟩
    · repeat' first
        | (apply Exists.intro (Prod.mk (Parse.mk _ _ _ _ _) _); dsimp only; refine ⟨rfl, rfl, rfl, rfl, rfl, rfl, ?_⟩; refine h _ ?_)
        | (refine ⟨_, fun _ => rfl, ?_⟩)
        | (rintro _ rfl; try dsimp only)
        | apply And.intro
        | intro _
      all_goals (clear h; try simp only [strBytes_size, ByteArray.size_append, List.length_append, List.length_cons, List.length_nil, Nat.zero_add, Bool.and_eq_true, Bool.or_eq_true, Bool.and_eq_false_iff, Bool.or_eq_false_iff, decide_eq_true_eq, decide_eq_false_iff_not, Bool.not_eq_true', Bool.not_eq_eq_eq_not, Bool.not_true, Bool.not_false, true_and, and_true, Int.toNat_natCast, not_true_eq_false, not_false_eq_true, ne_eq, eq_self] at *)
      all_goals first
        | omega
        | (simp only [groundS, flushE_at]; repeat' split) <;> first | rfl | (simp_all [E0]; done) | (exfalso; omega)
    · repeat' first
        | (apply Exists.intro (Prod.mk (Parse.mk _ _ _ _ _) _); dsimp only; refine ⟨rfl, rfl, rfl, rfl, rfl, rfl, ?_⟩; refine h _ ?_)
        | (refine ⟨_, fun _ => rfl, ?_⟩)
        | (rintro _ rfl; try dsimp only)
        | apply And.intro
        | intro _
      all_goals (clear h; try simp only [strBytes_size, ByteArray.size_append, List.length_append, List.length_cons, List.length_nil, Nat.zero_add, Bool.and_eq_true, Bool.or_eq_true, Bool.and_eq_false_iff, Bool.or_eq_false_iff, decide_eq_true_eq, decide_eq_false_iff_not, Bool.not_eq_true', Bool.not_eq_eq_eq_not, Bool.not_true, Bool.not_false, true_and, and_true, Int.toNat_natCast, not_true_eq_false, not_false_eq_true, ne_eq, eq_self] at *)
      all_goals first
        | omega
        | (simp only [groundS, flushE_at]; repeat' split) <;> first | rfl | (simp_all [E0]; done) | (exfalso; omega)
    · have e1 : (stepS pt b).1 = l1 := by rw [← e]
      have e2 : (stepS pt b).2 = t := by rw [← e]
      have hlen := (stepS_len pt b).1
      simp only [strBytes_size, ByteArray.size_append, List.length_append, List.length_cons, List.length_nil, Nat.zero_add, Bool.and_eq_true, Bool.or_eq_true, Bool.and_eq_false_iff, Bool.or_eq_false_iff, decide_eq_true_eq, decide_eq_false_iff_not, Bool.not_eq_true', Bool.not_eq_eq_eq_not, Bool.not_true, Bool.not_false, true_and, and_true, Int.toNat_natCast, not_true_eq_false, not_false_eq_true, ne_eq, eq_self] at h1 h2
      have hg : groundS ⟨st, pt, ps, it, tx⟩ b = (⟨st, (stepS pt b).2, ps, it, tx⟩, pr1 (stepS pt b).1) := by rw [groundS, if_neg h1, if_neg h2]
      refine ⟨(0, l), ⟨Nat.zero_le _, by simp [pr1]⟩, rfl, e2.symm, rfl, rfl, rfl, by rw [e1]; rfl, rfl, rfl, rfl, by rw [e1]; rfl, rfl, ?_⟩
      rintro ⟨i, ev⟩ ⟨q1, q2⟩
      dsimp only at q1 q2 ⊢
      have hev : ev.length ≤ l.length + 2 := by
        rw [q2, List.length_append]
        have : (pr1 (List.take i (stepS pt b).1)).length ≤ 2 := by
          unfold pr1
          rw [List.length_map]
          refine Nat.le_trans (List.length_filter_le _ _) ?_
          rw [List.length_take]; omega
        omega
      refine ⟨fun h3 => ?_, fun h3 => ?_⟩
      · simp only [strBytes_size, ByteArray.size_append, List.length_append, List.length_cons, List.length_nil, Nat.zero_add, Bool.and_eq_true, Bool.or_eq_true, Bool.and_eq_false_iff, Bool.or_eq_false_iff, decide_eq_true_eq, decide_eq_false_iff_not, Bool.not_eq_true', Bool.not_eq_eq_eq_not, Bool.not_true, Bool.not_false, true_and, and_true, Int.toNat_natCast, not_true_eq_false, not_false_eq_true, ne_eq, eq_self] at h3
        have hi : i < (stepS pt b).1.length := by omega
        have hw : IntKind.i64.wrap ((i : Int) + 1) = ((i + 1 : Nat) : Int) := by rw [w64 (by omega)]; omega
        have hs := pr1_snoc hi
        rw [Int.toNat_natCast, hw]
        refine ⟨⟨by omega, by omega⟩, hi, _, fun _ => rfl, fun h4 => ⟨⟨by simp; omega, by simp; omega⟩, (i + 1, _), ⟨⟨by show i + 1 ≤ _; omega, ?_⟩, by show _ - (i + 1) < _; omega⟩, rfl, rfl, rfl, rfl, rfl, rfl, rfl, rfl, rfl, rfl, rfl, trivial⟩,
          fun h4 => ⟨(i + 1, _), ⟨⟨by show i + 1 ≤ _; omega, ?_⟩, by show _ - (i + 1) < _; omega⟩, rfl, rfl, rfl, rfl, rfl, rfl, rfl, rfl, rfl, rfl, rfl, trivial⟩⟩
        · show ev ++ _ = l ++ pr1 (List.take (i + 1) _)
          have hk : keepR (gt (.int .i64) (stepS pt b).1 i) = true := by
            simp only [strBytes_size, ByteArray.size_append, List.length_append, List.length_cons, List.length_nil, Nat.zero_add, Bool.and_eq_true, Bool.or_eq_true, Bool.and_eq_false_iff, Bool.or_eq_false_iff, decide_eq_true_eq, decide_eq_false_iff_not, Bool.not_eq_true', Bool.not_eq_eq_eq_not, Bool.not_true, Bool.not_false, true_and, and_true, Int.toNat_natCast, not_true_eq_false, not_false_eq_true, ne_eq, eq_self] at h4
            simp only [keepR, decide_eq_true_eq]; exact h4
          rw [hs, if_pos hk, q2, List.append_assoc]
        · show ev = l ++ pr1 (List.take (i + 1) _)
          have hk : ¬ keepR (gt (.int .i64) (stepS pt b).1 i) = true := by
            simp only [strBytes_size, ByteArray.size_append, List.length_append, List.length_cons, List.length_nil, Nat.zero_add, Bool.and_eq_true, Bool.or_eq_true, Bool.and_eq_false_iff, Bool.or_eq_false_iff, decide_eq_true_eq, decide_eq_false_iff_not, Bool.not_eq_true', Bool.not_eq_eq_eq_not, Bool.not_true, Bool.not_false, true_and, and_true, Int.toNat_natCast, not_true_eq_false, not_false_eq_true, ne_eq, eq_self] at h4
            intro hq
            rcases of_decide_eq_true hq with hq | hq
            · exact h4.1 hq
            · exact h4.2 hq
          rw [hs, if_neg hk, q2, List.append_nil]
      · simp only [strBytes_size, ByteArray.size_append, List.length_append, List.length_cons, List.length_nil, Nat.zero_add, Bool.and_eq_true, Bool.or_eq_true, Bool.and_eq_false_iff, Bool.or_eq_false_iff, decide_eq_true_eq, decide_eq_false_iff_not, Bool.not_eq_true', Bool.not_eq_eq_eq_not, Bool.not_true, Bool.not_false, true_and, and_true, Int.toNat_natCast, not_true_eq_false, not_false_eq_true, ne_eq, eq_self] at h3
        have hi : i = (stepS pt b).1.length := by omega
        subst hi
        rw [List.take_length] at q2
        apply Exists.intro (Prod.mk (Parse.mk _ _ _ _ _) _); dsimp only; refine ⟨rfl, rfl, rfl, rfl, rfl, rfl, ?_⟩
        refine h _ ?_
        rw [hg, q2]
  · exact h.elim)
noncomputable def e_ground : List (FuncId × Con) := (59, groundCon) :: e_to2
theorem e_ground_ok : ConsOk Tryd.prog (look e_ground) := cons_cons e_to2_ok ground_ok
end Go.Cx
end
section
namespace Go.Cx
open Go Go.Sx Go.Proofs
set_option maxRecDepth 100000
set_option maxHeartbeats 0
noncomputable def takeICon : Con := ⟨[.m, .v], fun ags M K => evFn (env e_ground) Tryd.f44 (cfg1) ags M K⟩
theorem takeI_ok : ConOk Tryd.prog 44 takeICon := fn_ok (env_ok e_ground_ok) mixed Tryd.func44 rfl takeICon (cfg1) (fun _ _ _ h => h)
noncomputable def e_takeI : List (FuncId × Con) := (44, takeICon) :: e_ground
theorem e_takeI_ok : ConsOk Tryd.prog (look e_takeI) := cons_cons e_ground_ok takeI_ok
noncomputable def textCon : Con := ⟨[.m, .v], fun ags M K => match ags, M with
  | [.ptr 0 0, .val (.int .u8 b)], [.flat [.val (.int .i64 st), .val (.string pt), .own 1, .val (.string it), .val (.string tx), .own 2], .arr (.int .i64) ps, .arr (.vev 100 95 76 102) l] => (l.length ≤ 90000 ∧ 5 ≤ st ∧ st ≤ 8 ∧ 0 ≤ b ∧ b < 256 ∧ tx.size ≤ 1000) ∧ ∀ r : Parse × List Vev, r = ((textS ⟨st, pt, ps, it, tx⟩ b).1, l ++ (textS ⟨st, pt, ps, it, tx⟩ b).2) → K (.tup []) (MO r.1 r.2)
  | _, _ => False⟩
theorem text_vc (b st : Int) (pt it tx : ByteArray) (ps : List Int) (l : List Vev) (K : AV → List Blk → Prop) : (evFn (env e_takeI) Tryd.f64 (cfgM) [.ptr 0 0, .int .u8 b] [.flat [.i st, .s pt, .own 1, .s it, .s tx, .own 2], ints ps, .arr (.vev 100 95 76 102) l] K) = (
  ∃ (b_1 : Bool), (decide (st = (7 : Int)) = false → decide (st = (8 : Int)) = b_1) ∧ ∃ (b_2 : Bool), ((decide (st = (7 : Int)) || b_1) = true → (!decide (b = (92 : Int)))
  = b_2) ∧ (((decide (st = (7 : Int)) || b_1) && b_2) = true → True ∧ ∀ (r : Parse × List Vev), r = (P0 (1 : Int), l) → ∃ (b_3 : Bool), (decide (b = (24 : Int)) = false →
  decide (b = (26 : Int)) = b_3) ∧ ((decide (b = (24 : Int)) || b_3) = true → ((!decide (r.fst.part = ByteArray.mk #[])) = true → (r.snd.length + 1 ≤ 140737488355328 ∧
  (r.snd.length + 1) * 16 ≤ 140737488355328) ∧ ((r.snd ++ [Vev.printed (65533 : Int)]).length + [Vev.control b].length ≤ 140737488355328 ∧ ((r.snd ++ [Vev.printed (65533 :
  Int)]).length + [Vev.control b].length) * 16 ≤ 140737488355328) ∧ True ∧ ∀ (r_1 : Parse × List Vev), r_1 = (P0 (0 : Int), r.snd ++ [Vev.printed (65533 : Int)] ++
  [Vev.control b]) → ∃ (x : Parse × List Vev), r_1.fst.state = x.fst.state ∧ r_1.fst.part = x.fst.part ∧ r_1.fst.inter = x.fst.inter ∧ r_1.fst.text = x.fst.text ∧
  r_1.fst.params = x.fst.params ∧ r_1.snd = x.snd ∧ Leaf rtM K x) ∧ ((!decide (r.fst.part = ByteArray.mk #[])) = false → (r.snd.length + [Vev.control b].length ≤
  140737488355328 ∧ (r.snd.length + [Vev.control b].length) * 16 ≤ 140737488355328) ∧ True ∧ ∀ (r_1 : Parse × List Vev), r_1 = (P0 (0 : Int), r.snd ++ [Vev.control b]) → ∃
  (x : Parse × List Vev), r_1.fst.state = x.fst.state ∧ r_1.fst.part = x.fst.part ∧ r_1.fst.inter = x.fst.inter ∧ r_1.fst.text = x.fst.text ∧ r_1.fst.params = x.fst.params
  ∧ r_1.snd = x.snd ∧ Leaf rtM K x)) ∧ ((decide (b = (24 : Int)) || b_3) = false → ∃ (b_4 : Bool), (decide (b = (27 : Int)) = true → (!decide (r.fst.state = (5 : Int))) =
  b_4) ∧ ∃ (b_5 : Bool), ((decide (b = (27 : Int)) && b_4) = true → (!decide (r.fst.state = (6 : Int))) = b_5) ∧ ((decide (b = (27 : Int)) && b_4 && b_5) = true → ((!decide
  (r.fst.part = ByteArray.mk #[])) = true → (r.snd.length + 1 ≤ 140737488355328 ∧ (r.snd.length + 1) * 16 ≤ 140737488355328) ∧ True ∧ ∀ (r_1 : Parse × List Vev), r_1 = (P0
  (1 : Int), r.snd ++ [Vev.printed (65533 : Int)]) → ∃ (x : Parse × List Vev), r_1.fst.state = x.fst.state ∧ r_1.fst.part = x.fst.part ∧ r_1.fst.inter = x.fst.inter ∧
  r_1.fst.text = x.fst.text ∧ r_1.fst.params = x.fst.params ∧ r_1.snd = x.snd ∧ Leaf rtM K x) ∧ ((!decide (r.fst.part = ByteArray.mk #[])) = false → True ∧ ∀ (r_1 : Parse ×
  List Vev), r_1 = (P0 (1 : Int), r.snd) → ∃ (x : Parse × List Vev), r_1.fst.state = x.fst.state ∧ r_1.fst.part = x.fst.part ∧ r_1.fst.inter = x.fst.inter ∧ r_1.fst.text =
  x.fst.text ∧ r_1.fst.params = x.fst.params ∧ r_1.snd = x.snd ∧ Leaf rtM K x)) ∧ ((decide (b = (27 : Int)) && b_4 && b_5) = false → (decide (r.fst.state = (0 : Int)) =
  true → (r.snd.length ≤ 100000 ∧ (0 : Int) ≤ b ∧ b < (256 : Int) ∧ r.fst.part.size ≤ 100) ∧ ∀ (r_1 : Parse × List Vev), r_1 = ((groundS (Parse.mk r.fst.state r.fst.part
  r.fst.params r.fst.inter r.fst.text) b).fst, r.snd ++ (groundS (Parse.mk r.fst.state r.fst.part r.fst.params r.fst.inter r.fst.text) b).snd) → ∃ (x : Parse × List Vev),
  r_1.fst.state = x.fst.state ∧ r_1.fst.part = x.fst.part ∧ r_1.fst.inter = x.fst.inter ∧ r_1.fst.text = x.fst.text ∧ r_1.fst.params = x.fst.params ∧ r_1.snd = x.snd ∧ Leaf
  rtM K x) ∧ (decide (r.fst.state = (0 : Int)) = false → (decide (r.fst.state = (1 : Int)) = true → r.snd.length ≤ 100000 ∧ ∀ (r_1 : Parse × List Vev), r_1 = ((escS
  (Parse.mk r.fst.state r.fst.part r.fst.params r.fst.inter r.fst.text) b).fst, r.snd ++ (escS (Parse.mk r.fst.state r.fst.part r.fst.params r.fst.inter r.fst.text) b).snd)
  → ∃ (x : Parse × List Vev), r_1.fst.state = x.fst.state ∧ r_1.fst.part = x.fst.part ∧ r_1.fst.inter = x.fst.inter ∧ r_1.fst.text = x.fst.text ∧ r_1.fst.params =
  x.fst.params ∧ r_1.snd = x.snd ∧ Leaf rtM K x) ∧ (decide (r.fst.state = (1 : Int)) = false → (decide (r.fst.state = (2 : Int)) = true → (r.snd.length ≤ 100000 ∧
  r.fst.inter.size ≤ 100) ∧ ∀ (r_1 : Parse × List Vev), r_1 = ((interS (Parse.mk r.fst.state r.fst.part r.fst.params r.fst.inter r.fst.text) b).fst, r.snd ++ (interS
  (Parse.mk r.fst.state r.fst.part r.fst.params r.fst.inter r.fst.text) b).snd) → ∃ (x : Parse × List Vev), r_1.fst.state = x.fst.state ∧ r_1.fst.part = x.fst.part ∧
  r_1.fst.inter = x.fst.inter ∧ r_1.fst.text = x.fst.text ∧ r_1.fst.params = x.fst.params ∧ r_1.snd = x.snd ∧ Leaf rtM K x) ∧ (decide (r.fst.state = (2 : Int)) = false →
  (decide (r.fst.state = (3 : Int)) = true → (r.snd.length ≤ 100000 ∧ r.fst.inter.size ≤ 100 ∧ r.fst.params.length ≤ 16 ∧ ∀ (v : El (Kd.int IntKind.i64)), v ∈ r.fst.params
  → (-1 : El (Kd.int IntKind.i64)) ≤ v ∧ v ≤ (9999 : El (Kd.int IntKind.i64))) ∧ ∀ (r_1 : Parse × List Vev), r_1 = ((csiS (Parse.mk r.fst.state r.fst.part r.fst.params
  r.fst.inter r.fst.text) b).fst, r.snd ++ (csiS (Parse.mk r.fst.state r.fst.part r.fst.params r.fst.inter r.fst.text) b).snd) → ∃ (x : Parse × List Vev), r_1.fst.state =
  x.fst.state ∧ r_1.fst.part = x.fst.part ∧ r_1.fst.inter = x.fst.inter ∧ r_1.fst.text = x.fst.text ∧ r_1.fst.params = x.fst.params ∧ r_1.snd = x.snd ∧ Leaf rtM K x) ∧
  (decide (r.fst.state = (3 : Int)) = false → (decide (r.fst.state = (4 : Int)) = true → r.snd.length ≤ 100000 ∧ ∀ (r_1 : Parse × List Vev), r_1 = ((skipS (Parse.mk
  r.fst.state r.fst.part r.fst.params r.fst.inter r.fst.text) b).fst, r.snd ++ (skipS (Parse.mk r.fst.state r.fst.part r.fst.params r.fst.inter r.fst.text) b).snd) → ∃ (x :
  Parse × List Vev), r_1.fst.state = x.fst.state ∧ r_1.fst.part = x.fst.part ∧ r_1.fst.inter = x.fst.inter ∧ r_1.fst.text = x.fst.text ∧ r_1.fst.params = x.fst.params ∧
  r_1.snd = x.snd ∧ Leaf rtM K x) ∧ (decide (r.fst.state = (4 : Int)) = false → False)))))))) ∧ (((decide (st = (7 : Int)) || b_1) && b_2) = false → ∃ (b_3 : Bool), (decide
  (st = (7 : Int)) = false → ∃ (b_4 : Bool), (decide (st = (5 : Int)) = true → decide (b = (7 : Int)) = b_4) ∧ (decide (st = (5 : Int)) && b_4) = b_3) ∧ ((decide (st = (7 :
  Int)) || b_3) = true → (l.length + [Vev.osc tx].length ≤ 140737488355328 ∧ (l.length + [Vev.osc tx].length) * 16 ≤ 140737488355328) ∧ True ∧ ∀ (r : Parse × List Vev), r =
  (P0 (0 : Int), l ++ [Vev.osc tx]) → ∃ (x : Parse × List Vev), r.fst.state = x.fst.state ∧ r.fst.part = x.fst.part ∧ r.fst.inter = x.fst.inter ∧ r.fst.text = x.fst.text ∧
  r.fst.params = x.fst.params ∧ r.snd = x.snd ∧ Leaf rtM K x) ∧ ((decide (st = (7 : Int)) || b_3) = false → ((decide (st = (7 : Int)) || b_1) = true → True ∧ ∀ (r : Parse ×
  List Vev), r = (P0 (0 : Int), l) → ∃ (x : Parse × List Vev), r.fst.state = x.fst.state ∧ r.fst.part = x.fst.part ∧ r.fst.inter = x.fst.inter ∧ r.fst.text = x.fst.text ∧
  r.fst.params = x.fst.params ∧ r.snd = x.snd ∧ Leaf rtM K x) ∧ ((decide (st = (7 : Int)) || b_1) = false → ∃ (b_4 : Bool), (decide (b = (27 : Int)) = true → decide (st =
  (5 : Int)) = b_4) ∧ ((decide (b = (27 : Int)) && b_4) = true → ∃ (x : Parse × List Vev), (7 : Int) = x.fst.state ∧ pt = x.fst.part ∧ it = x.fst.inter ∧ tx = x.fst.text ∧
  ps = x.fst.params ∧ l = x.snd ∧ Leaf rtM K x) ∧ ((decide (b = (27 : Int)) && b_4) = false → (decide (b = (27 : Int)) = true → ∃ (x : Parse × List Vev), (8 : Int) =
  x.fst.state ∧ pt = x.fst.part ∧ it = x.fst.inter ∧ tx = x.fst.text ∧ ps = x.fst.params ∧ l = x.snd ∧ Leaf rtM K x) ∧ (decide (b = (27 : Int)) = false → ∃ (b_5 : Bool),
  (decide (st = (5 : Int)) = true → decide ((32 : Int) ≤ b) = b_5) ∧ ∃ (b_6 : Bool), ((decide (st = (5 : Int)) && b_5) = true → decide ((↑tx.size : Int) < (64 : Int)) =
  b_6) ∧ ((decide (st = (5 : Int)) && b_5 && b_6) = true → tx.size + (strBytes [b]).size ≤ 4611686018427387904 ∧ ∃ (x : Parse × List Vev), st = x.fst.state ∧ pt =
  x.fst.part ∧ it = x.fst.inter ∧ tx ++ strBytes [b] = x.fst.text ∧ ps = x.fst.params ∧ l = x.snd ∧ Leaf rtM K x) ∧ ((decide (st = (5 : Int)) && b_5 && b_6) = false → ∃ (x
  : Parse × List Vev), st = x.fst.state ∧ pt = x.fst.part ∧ it = x.fst.inter ∧ tx = x.fst.text ∧ ps = x.fst.params ∧ l = x.snd ∧ Leaf rtM K x))))))) := by kernel_rfl

theorem text_ok : ConOk Tryd.prog 64 textCon := fn_ok2 (env_ok e_takeI_ok) mixed Tryd.func64 rfl textCon (by
  intro ags M K h
  unfold textCon at h
  simp only at h
  split at h
  · rename_i b st pt it tx ps l
    refine ⟨cfgM, ?_⟩
    show evFn (env e_takeI) _ _ [.ptr 0 0, .int .u8 b] [.flat [.i st, .s pt, .own 1, .s it, .s tx, .own 2], ints ps, .arr (.vev 100 95 76 102) l] _
    rw [text_vc]
    obtain ⟨hp, h⟩ := h
    obtain ⟨p1, p2, p3, p4, p5, p6⟩ := hp
    repeat' first
      | (apply Exists.intro (Prod.mk (Parse.mk _ _ _ _ _) _); dsimp only; refine ⟨rfl, rfl, rfl, rfl, rfl, rfl, ?_⟩; refine h _ ?_)
      | assumption
      | exact rfl
      | (refine ⟨_, fun _ => rfl, ?_⟩)
      | (rintro _ rfl; try dsimp only)
      | apply And.intro
      | intro _
      | apply Exists.intro
    all_goals (clear h; try simp only [strBytes_size, ByteArray.size_append, List.length_append, List.length_cons, List.length_nil, Nat.zero_add, Bool.and_eq_true, Bool.or_eq_true, Bool.and_eq_false_iff, Bool.or_eq_false_iff, decide_eq_true_eq, decide_eq_false_iff_not, Bool.not_eq_true', Bool.not_eq_eq_eq_not, Bool.not_true, Bool.not_false, true_and, and_true, Int.toNat_natCast, not_true_eq_false, not_false_eq_true, ne_eq, eq_self] at *)
    all_goals first
      | omega
      | ((simp only [textS, takeE]; (try dsimp only); repeat' split) <;> first | rfl | (simp [strBytes]; done) | (exfalso; omega))
  · exact h.elim)
noncomputable def e_text : List (FuncId × Con) := (64, textCon) :: e_takeI
theorem e_text_ok : ConsOk Tryd.prog (look e_text) := cons_cons e_takeI_ok text_ok
noncomputable def takeCon : Con := ⟨[.m, .v], fun ags M K => match ags, M with
  | [.ptr 0 0, .val (.int .u8 b)], [.flat [.val (.int .i64 st), .val (.string pt), .own 1, .val (.string it), .val (.string tx), .own 2], .arr (.int .i64) ps, .arr (.vev 100 95 76 102) l] => (l.length ≤ 90000 ∧ 0 ≤ st ∧ st ≤ 8 ∧ 0 ≤ b ∧ b < 256 ∧ tx.size ≤ 1000 ∧ pt.size ≤ 100 ∧ it.size ≤ 100 ∧ ps.length ≤ 16 ∧ ∀ v ∈ (ps : List Int), -1 ≤ v ∧ v ≤ 9999) ∧ ∀ r : Parse × List Vev, r = ((takeS ⟨st, pt, ps, it, tx⟩ b).1, l ++ (takeS ⟨st, pt, ps, it, tx⟩ b).2) → K (.tup []) (MO r.1 r.2)
  | _, _ => False⟩
theorem take_vc (b st : Int) (pt it tx : ByteArray) (ps : List Int) (l : List Vev) (K : AV → List Blk → Prop) : (evFn (env e_text) Tryd.f44 (cfgM) [.ptr 0 0, .int .u8 b] [.flat [.i st, .s pt, .own 1, .s it, .s tx, .own 2], ints ps, .arr (.vev 100 95 76 102) l] K) = (
  ∃ (b_1 : Bool), (decide (b = (24 : Int)) = false → decide (b = (26 : Int)) = b_1) ∧ ((decide (b = (24 : Int)) || b_1) = true → ((!decide (pt = ByteArray.mk #[])) = true →
  (l.length + 1 ≤ 140737488355328 ∧ (l.length + 1) * 16 ≤ 140737488355328) ∧ ((l ++ [Vev.printed (65533 : Int)]).length + [Vev.control b].length ≤ 140737488355328 ∧ ((l ++
  [Vev.printed (65533 : Int)]).length + [Vev.control b].length) * 16 ≤ 140737488355328) ∧ True ∧ ∀ (r : Parse × List Vev), r = (P0 (0 : Int), l ++ [Vev.printed (65533 :
  Int)] ++ [Vev.control b]) → ∃ (x : Parse × List Vev), r.fst.state = x.fst.state ∧ r.fst.part = x.fst.part ∧ r.fst.inter = x.fst.inter ∧ r.fst.text = x.fst.text ∧
  r.fst.params = x.fst.params ∧ r.snd = x.snd ∧ Leaf rtM K x) ∧ ((!decide (pt = ByteArray.mk #[])) = false → (l.length + [Vev.control b].length ≤ 140737488355328 ∧
  (l.length + [Vev.control b].length) * 16 ≤ 140737488355328) ∧ True ∧ ∀ (r : Parse × List Vev), r = (P0 (0 : Int), l ++ [Vev.control b]) → ∃ (x : Parse × List Vev),
  r.fst.state = x.fst.state ∧ r.fst.part = x.fst.part ∧ r.fst.inter = x.fst.inter ∧ r.fst.text = x.fst.text ∧ r.fst.params = x.fst.params ∧ r.snd = x.snd ∧ Leaf rtM K x)) ∧
  ((decide (b = (24 : Int)) || b_1) = false → ∃ (b_2 : Bool), (decide (b = (27 : Int)) = true → (!decide (st = (5 : Int))) = b_2) ∧ ∃ (b_3 : Bool), ((decide (b = (27 :
  Int)) && b_2) = true → (!decide (st = (6 : Int))) = b_3) ∧ ((decide (b = (27 : Int)) && b_2 && b_3) = true → ((!decide (pt = ByteArray.mk #[])) = true → (l.length + 1 ≤
  140737488355328 ∧ (l.length + 1) * 16 ≤ 140737488355328) ∧ True ∧ ∀ (r : Parse × List Vev), r = (P0 (1 : Int), l ++ [Vev.printed (65533 : Int)]) → ∃ (x : Parse × List
  Vev), r.fst.state = x.fst.state ∧ r.fst.part = x.fst.part ∧ r.fst.inter = x.fst.inter ∧ r.fst.text = x.fst.text ∧ r.fst.params = x.fst.params ∧ r.snd = x.snd ∧ Leaf rtM K
  x) ∧ ((!decide (pt = ByteArray.mk #[])) = false → True ∧ ∀ (r : Parse × List Vev), r = (P0 (1 : Int), l) → ∃ (x : Parse × List Vev), r.fst.state = x.fst.state ∧
  r.fst.part = x.fst.part ∧ r.fst.inter = x.fst.inter ∧ r.fst.text = x.fst.text ∧ r.fst.params = x.fst.params ∧ r.snd = x.snd ∧ Leaf rtM K x)) ∧ ((decide (b = (27 : Int))
  && b_2 && b_3) = false → (decide (st = (0 : Int)) = true → (l.length ≤ 100000 ∧ (0 : Int) ≤ b ∧ b < (256 : Int) ∧ pt.size ≤ 100) ∧ ∀ (r : Parse × List Vev), r = ((groundS
  (Parse.mk st pt ps it tx) b).fst, l ++ (groundS (Parse.mk st pt ps it tx) b).snd) → ∃ (x : Parse × List Vev), r.fst.state = x.fst.state ∧ r.fst.part = x.fst.part ∧
  r.fst.inter = x.fst.inter ∧ r.fst.text = x.fst.text ∧ r.fst.params = x.fst.params ∧ r.snd = x.snd ∧ Leaf rtM K x) ∧ (decide (st = (0 : Int)) = false → (decide (st = (1 :
  Int)) = true → l.length ≤ 100000 ∧ ∀ (r : Parse × List Vev), r = ((escS (Parse.mk st pt ps it tx) b).fst, l ++ (escS (Parse.mk st pt ps it tx) b).snd) → ∃ (x : Parse ×
  List Vev), r.fst.state = x.fst.state ∧ r.fst.part = x.fst.part ∧ r.fst.inter = x.fst.inter ∧ r.fst.text = x.fst.text ∧ r.fst.params = x.fst.params ∧ r.snd = x.snd ∧ Leaf
  rtM K x) ∧ (decide (st = (1 : Int)) = false → (decide (st = (2 : Int)) = true → (l.length ≤ 100000 ∧ it.size ≤ 100) ∧ ∀ (r : Parse × List Vev), r = ((interS (Parse.mk st
  pt ps it tx) b).fst, l ++ (interS (Parse.mk st pt ps it tx) b).snd) → ∃ (x : Parse × List Vev), r.fst.state = x.fst.state ∧ r.fst.part = x.fst.part ∧ r.fst.inter =
  x.fst.inter ∧ r.fst.text = x.fst.text ∧ r.fst.params = x.fst.params ∧ r.snd = x.snd ∧ Leaf rtM K x) ∧ (decide (st = (2 : Int)) = false → (decide (st = (3 : Int)) = true →
  (l.length ≤ 100000 ∧ it.size ≤ 100 ∧ ps.length ≤ 16 ∧ ∀ (v : El (Kd.int IntKind.i64)), v ∈ ps → (-1 : El (Kd.int IntKind.i64)) ≤ v ∧ v ≤ (9999 : El (Kd.int IntKind.i64)))
  ∧ ∀ (r : Parse × List Vev), r = ((csiS (Parse.mk st pt ps it tx) b).fst, l ++ (csiS (Parse.mk st pt ps it tx) b).snd) → ∃ (x : Parse × List Vev), r.fst.state =
  x.fst.state ∧ r.fst.part = x.fst.part ∧ r.fst.inter = x.fst.inter ∧ r.fst.text = x.fst.text ∧ r.fst.params = x.fst.params ∧ r.snd = x.snd ∧ Leaf rtM K x) ∧ (decide (st =
  (3 : Int)) = false → (decide (st = (4 : Int)) = true → l.length ≤ 100000 ∧ ∀ (r : Parse × List Vev), r = ((skipS (Parse.mk st pt ps it tx) b).fst, l ++ (skipS (Parse.mk
  st pt ps it tx) b).snd) → ∃ (x : Parse × List Vev), r.fst.state = x.fst.state ∧ r.fst.part = x.fst.part ∧ r.fst.inter = x.fst.inter ∧ r.fst.text = x.fst.text ∧
  r.fst.params = x.fst.params ∧ r.snd = x.snd ∧ Leaf rtM K x) ∧ (decide (st = (4 : Int)) = false → (l.length ≤ 90000 ∧ (5 : Int) ≤ st ∧ st ≤ (8 : Int) ∧ (0 : Int) ≤ b ∧ b <
  (256 : Int) ∧ tx.size ≤ 1000) ∧ ∀ (r : Parse × List Vev), r = ((textS (Parse.mk st pt ps it tx) b).fst, l ++ (textS (Parse.mk st pt ps it tx) b).snd) → ∃ (x : Parse ×
  List Vev), r.fst.state = x.fst.state ∧ r.fst.part = x.fst.part ∧ r.fst.inter = x.fst.inter ∧ r.fst.text = x.fst.text ∧ r.fst.params = x.fst.params ∧ r.snd = x.snd ∧ Leaf
  rtM K x)))))))) := by kernel_rfl

theorem take_ok : ConOk Tryd.prog 44 takeCon := fn_ok2 (env_ok e_text_ok) mixed Tryd.func44 rfl takeCon (by
  intro ags M K h
  unfold takeCon at h
  simp only at h
  split at h
  · rename_i b st pt it tx ps l
    refine ⟨cfgM, ?_⟩
    show evFn (env e_text) _ _ [.ptr 0 0, .int .u8 b] [.flat [.i st, .s pt, .own 1, .s it, .s tx, .own 2], ints ps, .arr (.vev 100 95 76 102) l] _
    rw [take_vc]
    obtain ⟨hp, h⟩ := h
    obtain ⟨p1, p2, p3, p4, p5, p6, p7, p8, p9, p10⟩ := hp
    repeat' first
      | (apply Exists.intro (Prod.mk (Parse.mk _ _ _ _ _) _); dsimp only; refine ⟨rfl, rfl, rfl, rfl, rfl, rfl, ?_⟩; refine h _ ?_)
      | assumption
      | exact rfl
      | (refine ⟨_, fun _ => rfl, ?_⟩)
      | (rintro _ rfl; try dsimp only)
      | apply And.intro
      | intro _
      | apply Exists.intro
    all_goals (clear h; try simp only [strBytes_size, ByteArray.size_append, List.length_append, List.length_cons, List.length_nil, Nat.zero_add, Bool.and_eq_true, Bool.or_eq_true, Bool.and_eq_false_iff, Bool.or_eq_false_iff, decide_eq_true_eq, decide_eq_false_iff_not, Bool.not_eq_true', Bool.not_eq_eq_eq_not, Bool.not_true, Bool.not_false, true_and, and_true, Int.toNat_natCast, not_true_eq_false, not_false_eq_true, ne_eq, eq_self] at *)
    all_goals first
      | omega
      | ((simp only [takeS, flushE_at]; (try dsimp only); repeat' split) <;> first | rfl | (simp [strBytes]; done) | (exfalso; omega))
  · exact h.elim)
noncomputable def e_take : List (FuncId × Con) := (44, takeCon) :: e_text
theorem e_take_ok : ConsOk Tryd.prog (look e_take) := cons_cons e_text_ok take_ok
end Go.Cx
end
section
namespace Go.Cx
open Go Go.Sx Go.Proofs
set_option maxRecDepth 100000
set_option maxHeartbeats 0
/-! vt: may a state be; slices of one's own -/
noncomputable def pb (p : Prop) : Bool := @decide p (Classical.propDecidable p)
theorem pb_true {p : Prop} : pb p = true ↔ p := by unfold pb; exact @decide_eq_true_iff p (Classical.propDecidable p)
theorem pb_false {p : Prop} : pb p = false ↔ ¬ p := by unfold pb; exact @decide_eq_false_iff_not p (Classical.propDecidable p)
theorem pb_eq {p : Prop} {b : Bool} (h : b = true ↔ p) : b = pb p := by
  cases b with
  | true => exact (pb_true.2 (h.1 rfl)).symm
  | false => exact (pb_false.2 (fun e => by have := h.2 e; cases this)).symm
theorem pb_dec {p : Prop} [Decidable p] : pb p = decide p := (pb_eq (by simp)).symm
def InterOk (st : Int) (it : ByteArray) : Prop := (st = 2 → it ≠ E0) ∧ (st ≠ 2 → st ≠ 3 → it = E0) ∧ it.size ≤ 3 ∧ ∀ j : Nat, j < it.size → (32 ≤ bt it j ∧ bt it j ≤ 47) ∨ (j = 0 ∧ st = 3 ∧ 60 ≤ bt it j ∧ bt it j ≤ 63)
def StOk (p : Parse) : Prop := (0 ≤ p.state ∧ p.state ≤ 8) ∧ (p.part ≠ E0 → p.state = 0 ∧ partS p.part = true) ∧ InterOk p.state p.inter ∧ p.params.length ≤ 16 ∧ (p.params.length ≠ 0 → p.state = 3) ∧ (∀ v ∈ (p.params : List Int), -1 ≤ v ∧ v ≤ 9999) ∧ (p.text ≠ E0 → p.state = 5 ∨ p.state = 7) ∧ p.text.size ≤ 64 ∧ ∀ j : Nat, j < p.text.size → 32 ≤ bt p.text j
def rtL : Lr := ⟨List Int, fun _ => [.own 0], fun x => [ints x]⟩
theorem all_snoc {k : Kd} {xs : List (El k)} {i : Nat} {Q : El k → Prop} (h : i < xs.length) (ha : ∀ v ∈ xs.take i, Q v) (hi : Q (gt k xs i)) : ∀ v ∈ xs.take (i + 1), Q v := by
  intro v hv
  rw [List.take_add_one, gt_lt h] at hv
  rcases List.mem_append.1 hv with hv | hv
  · exact ha v hv
  · simp at hv; subst hv; exact hi
noncomputable def betweenCon : Con := ⟨[.v, .v, .v], fun ags M K => evFn (env e_take) Tryd.f73 (cfg1) ags M K⟩
theorem between_ok : ConOk Tryd.prog 73 betweenCon := fn_ok (env_ok e_take_ok) mixed Tryd.func73 rfl betweenCon (cfg1) (fun _ _ _ h => h)
noncomputable def e_between : List (FuncId × Con) := (73, betweenCon) :: e_take
theorem e_between_ok : ConsOk Tryd.prog (look e_between) := cons_cons e_take_ok between_ok
noncomputable def badNCon : Con := ⟨[.v], fun ags M K => evFn (env e_between) Tryd.f52 (cfg1) ags M K⟩
theorem badN_ok : ConOk Tryd.prog 52 badNCon := fn_ok (env_ok e_between_ok) mixed Tryd.func52 rfl badNCon (cfg1) (fun _ _ _ h => h)
noncomputable def e_badN : List (FuncId × Con) := (52, badNCon) :: e_between
theorem e_badN_ok : ConsOk Tryd.prog (look e_badN) := cons_cons e_between_ok badN_ok
noncomputable def badBCon : Con := ⟨[.v], fun ags M K => evFn (env e_badN) Tryd.f55 (cfg1) ags M K⟩
theorem badB_ok : ConOk Tryd.prog 55 badBCon := fn_ok (env_ok e_badN_ok) mixed Tryd.func55 rfl badBCon (cfg1) (fun _ _ _ h => h)
noncomputable def e_badB : List (FuncId × Con) := (55, badBCon) :: e_badN
theorem e_badB_ok : ConsOk Tryd.prog (look e_badB) := cons_cons e_badN_ok badB_ok
noncomputable def idxNCon : Con := ⟨[.r (.int .i64), .v], fun ags M K => match ags, M with
  | [.lt (.int .i64) xs, .val (.func (.func 52) ⟨[]⟩ ⟨[]⟩)], [] => (xs.length ≤ 4000000000000000000) ∧ ∀ r : Int, (0 ≤ r ↔ ∃ v ∈ (xs : List Int), v < -1 ∨ 9999 < v) → K (.i r) []
  | _, _ => False⟩
theorem idxN_vc (xs : List Int) (K : AV → List Blk → Prop) : (evFn (env e_badB) Tryd.f74 ({ cfg1 with lp := fun r => match r with | 2 => some { X := Nat, fr := fun i => [(0, .lt (.int .i64) xs), (1, .val (.func (.func 52) ⟨[]⟩ ⟨[]⟩)), (7, .i xs.length), (8, .i i)], M := fun _ => [], inv := fun i => i ≤ xs.length ∧ ∀ v ∈ (xs.take i : List Int), ¬ (v < -1 ∨ 9999 < v), mu := fun i => xs.length - i } | _ => none }) [.lt (.int .i64) xs, .val (.func (.func 52) ⟨[]⟩ ⟨[]⟩)] [] K) = (
  ∃ (x0 : Nat), (x0 ≤ xs.length ∧ ∀ (v : Int), v ∈ List.take x0 xs → ¬(v < (-1 : Int) ∨ (9999 : Int) < v)) ∧ xs = xs ∧ Value.func (Fn.func (52 : FuncId)) (Array.mk [])
  (Array.mk []) = Value.func (Fn.func (52 : FuncId)) (Array.mk []) (Array.mk []) ∧ (↑xs.length : Int) = (↑xs.length : Int) ∧ (0 : Int) = (↑x0 : Int) ∧ ∀ (x : Nat), (x ≤
  xs.length ∧ ∀ (v : Int), v ∈ List.take x xs → ¬(v < (-1 : Int) ∨ (9999 : Int) < v)) → (decide ((↑x : Int) < (↑xs.length : Int)) = true → ((0 : Int) ≤ (↑x : Int) ∧ (↑x :
  Int) < (↑xs.length : Int)) ∧ ∃ (b : Bool), (decide (gt (Kd.int IntKind.i64) xs (↑x : Int).toNat < (-1 : Int)) = false → decide ((9999 : Int) < gt (Kd.int IntKind.i64) xs
  (↑x : Int).toNat) = b) ∧ ((decide (gt (Kd.int IntKind.i64) xs (↑x : Int).toNat < (-1 : Int)) || b) = true → K (AV.val (Value.int IntKind.i64 (↑x : Int))) []) ∧ ((decide
  (gt (Kd.int IntKind.i64) xs (↑x : Int).toNat < (-1 : Int)) || b) = false → ∃ (x' : Nat), ((x' ≤ xs.length ∧ ∀ (v : Int), v ∈ List.take x' xs → ¬(v < (-1 : Int) ∨ (9999 :
  Int) < v)) ∧ xs.length - x' < xs.length - x) ∧ xs = xs ∧ Value.func (Fn.func (52 : FuncId)) (Array.mk []) (Array.mk []) = Value.func (Fn.func (52 : FuncId)) (Array.mk [])
  (Array.mk []) ∧ (↑xs.length : Int) = (↑xs.length : Int) ∧ IntKind.i64.wrap ((↑x : Int) + (1 : Int)) = (↑x' : Int) ∧ True)) ∧ (decide ((↑x : Int) < (↑xs.length : Int)) =
  false → K (AV.val (Value.int IntKind.i64 (-1 : Int))) [])) := by kernel_rfl

theorem idxN_ok : ConOk Tryd.prog 74 idxNCon := fn_ok2 (env_ok e_badB_ok) mixed Tryd.func74 rfl idxNCon (by
  intro ags M K h
  unfold idxNCon at h
  simp only at h
  split at h
  · rename_i xs
    refine ⟨{ cfg1 with lp := fun r => match r with | 2 => some { X := Nat, fr := fun i => [(0, .lt (.int .i64) xs), (1, .val (.func (.func 52) ⟨[]⟩ ⟨[]⟩)), (7, .i xs.length), (8, .i i)], M := fun _ => [], inv := fun i => i ≤ xs.length ∧ ∀ v ∈ (xs.take i : List Int), ¬ (v < -1 ∨ 9999 < v), mu := fun i => xs.length - i } | _ => none }, ?_⟩
    show evFn (env e_badB) _ _ [.lt (.int .i64) xs, .val (.func (.func 52) ⟨[]⟩ ⟨[]⟩)] [] _
    rw [idxN_vc]
    obtain ⟨hp, h⟩ := h
    refine ⟨0, ⟨Nat.zero_le _, fun v hv => by simp at hv⟩, rfl, rfl, rfl, rfl, ?_⟩
    rintro i ⟨q1, q2⟩
    refine ⟨fun h1 => ?_, fun h1 => h _ ?_⟩
    · simp only [strBytes_size, ByteArray.size_append, List.length_append, List.length_cons, List.length_nil, Nat.zero_add, Bool.and_eq_true, Bool.or_eq_true, Bool.and_eq_false_iff, Bool.or_eq_false_iff, decide_eq_true_eq, decide_eq_false_iff_not, Bool.not_eq_true', Bool.not_eq_eq_eq_not, Bool.not_true, Bool.not_false, true_and, and_true, Int.toNat_natCast, not_true_eq_false, not_false_eq_true, ne_eq, eq_self] at h1
      have hi : i < xs.length := by omega
      have hm := List.mem_of_getElem? (gt_lt (k := .int .i64) hi)
      rw [Int.toNat_natCast]
      refine ⟨⟨by omega, by omega⟩, _, fun _ => rfl, fun h2 => h _ ?_, fun h2 => ⟨i + 1, ⟨⟨hi, all_snoc hi q2 ?_⟩, by omega⟩, rfl, rfl, rfl, by rw [w64 (by omega)]; omega, trivial⟩⟩
      · simp only [strBytes_size, ByteArray.size_append, List.length_append, List.length_cons, List.length_nil, Nat.zero_add, Bool.and_eq_true, Bool.or_eq_true, Bool.and_eq_false_iff, Bool.or_eq_false_iff, decide_eq_true_eq, decide_eq_false_iff_not, Bool.not_eq_true', Bool.not_eq_eq_eq_not, Bool.not_true, Bool.not_false, true_and, and_true, Int.toNat_natCast, not_true_eq_false, not_false_eq_true, ne_eq, eq_self] at h2
        exact ⟨fun _ => ⟨_, hm, h2⟩, fun _ => by omega⟩
      · simp only [strBytes_size, ByteArray.size_append, List.length_append, List.length_cons, List.length_nil, Nat.zero_add, Bool.and_eq_true, Bool.or_eq_true, Bool.and_eq_false_iff, Bool.or_eq_false_iff, decide_eq_true_eq, decide_eq_false_iff_not, Bool.not_eq_true', Bool.not_eq_eq_eq_not, Bool.not_true, Bool.not_false, true_and, and_true, Int.toNat_natCast, not_true_eq_false, not_false_eq_true, ne_eq, eq_self] at h2
        rintro (e | e)
        · exact h2.1 e
        · exact h2.2 e
    · simp only [strBytes_size, ByteArray.size_append, List.length_append, List.length_cons, List.length_nil, Nat.zero_add, Bool.and_eq_true, Bool.or_eq_true, Bool.and_eq_false_iff, Bool.or_eq_false_iff, decide_eq_true_eq, decide_eq_false_iff_not, Bool.not_eq_true', Bool.not_eq_eq_eq_not, Bool.not_true, Bool.not_false, true_and, and_true, Int.toNat_natCast, not_true_eq_false, not_false_eq_true, ne_eq, eq_self] at h1
      have hi : i = xs.length := by omega
      subst hi
      rw [List.take_length] at q2
      exact ⟨fun e => by omega, fun ⟨v, hv, e⟩ => absurd e (q2 v hv)⟩
  · exact h.elim)
noncomputable def e_idxN : List (FuncId × Con) := (74, idxNCon) :: e_badB
theorem e_idxN_ok : ConsOk Tryd.prog (look e_idxN) := cons_cons e_badB_ok idxN_ok
noncomputable def idxBCon : Con := ⟨[.r (.int .u8), .v], fun ags M K => match ags, M with
  | [.lt (.int .u8) xs, .val (.func (.func 55) ⟨[]⟩ ⟨[]⟩)], [] => (xs.length ≤ 4000000000000000000) ∧ ∀ r : Int, (0 ≤ r ↔ ∃ v ∈ (xs : List Int), v < 32) → K (.i r) []
  | _, _ => False⟩
theorem idxB_vc (xs : List Int) (K : AV → List Blk → Prop) : (evFn (env e_idxN) Tryd.f75 ({ cfg1 with lp := fun r => match r with | 2 => some { X := Nat, fr := fun i => [(0, .lt (.int .u8) xs), (1, .val (.func (.func 55) ⟨[]⟩ ⟨[]⟩)), (7, .i xs.length), (8, .i i)], M := fun _ => [], inv := fun i => i ≤ xs.length ∧ ∀ v ∈ (xs.take i : List Int), ¬ (v < 32), mu := fun i => xs.length - i } | _ => none }) [.lt (.int .u8) xs, .val (.func (.func 55) ⟨[]⟩ ⟨[]⟩)] [] K) = (
  ∃ (x0 : Nat), (x0 ≤ xs.length ∧ ∀ (v : Int), v ∈ List.take x0 xs → ¬v < (32 : Int)) ∧ xs = xs ∧ Value.func (Fn.func (55 : FuncId)) (Array.mk []) (Array.mk []) =
  Value.func (Fn.func (55 : FuncId)) (Array.mk []) (Array.mk []) ∧ (↑xs.length : Int) = (↑xs.length : Int) ∧ (0 : Int) = (↑x0 : Int) ∧ ∀ (x : Nat), (x ≤ xs.length ∧ ∀ (v :
  Int), v ∈ List.take x xs → ¬v < (32 : Int)) → (decide ((↑x : Int) < (↑xs.length : Int)) = true → ((0 : Int) ≤ (↑x : Int) ∧ (↑x : Int) < (↑xs.length : Int)) ∧ (decide (gt
  (Kd.int IntKind.u8) xs (↑x : Int).toNat < (32 : Int)) = true → K (AV.val (Value.int IntKind.i64 (↑x : Int))) []) ∧ (decide (gt (Kd.int IntKind.u8) xs (↑x : Int).toNat <
  (32 : Int)) = false → ∃ (x' : Nat), ((x' ≤ xs.length ∧ ∀ (v : Int), v ∈ List.take x' xs → ¬v < (32 : Int)) ∧ xs.length - x' < xs.length - x) ∧ xs = xs ∧ Value.func
  (Fn.func (55 : FuncId)) (Array.mk []) (Array.mk []) = Value.func (Fn.func (55 : FuncId)) (Array.mk []) (Array.mk []) ∧ (↑xs.length : Int) = (↑xs.length : Int) ∧
  IntKind.i64.wrap ((↑x : Int) + (1 : Int)) = (↑x' : Int) ∧ True)) ∧ (decide ((↑x : Int) < (↑xs.length : Int)) = false → K (AV.val (Value.int IntKind.i64 (-1 : Int))) [])) := by kernel_rfl

theorem idxB_ok : ConOk Tryd.prog 75 idxBCon := fn_ok2 (env_ok e_idxN_ok) mixed Tryd.func75 rfl idxBCon (by
  intro ags M K h
  unfold idxBCon at h
  simp only at h
  split at h
  · rename_i xs
    refine ⟨{ cfg1 with lp := fun r => match r with | 2 => some { X := Nat, fr := fun i => [(0, .lt (.int .u8) xs), (1, .val (.func (.func 55) ⟨[]⟩ ⟨[]⟩)), (7, .i xs.length), (8, .i i)], M := fun _ => [], inv := fun i => i ≤ xs.length ∧ ∀ v ∈ (xs.take i : List Int), ¬ (v < 32), mu := fun i => xs.length - i } | _ => none }, ?_⟩
    show evFn (env e_idxN) _ _ [.lt (.int .u8) xs, .val (.func (.func 55) ⟨[]⟩ ⟨[]⟩)] [] _
    rw [idxB_vc]
    obtain ⟨hp, h⟩ := h
    refine ⟨0, ⟨Nat.zero_le _, fun v hv => by simp at hv⟩, rfl, rfl, rfl, rfl, ?_⟩
    rintro i ⟨q1, q2⟩
    refine ⟨fun h1 => ?_, fun h1 => h _ ?_⟩
    · simp only [strBytes_size, ByteArray.size_append, List.length_append, List.length_cons, List.length_nil, Nat.zero_add, Bool.and_eq_true, Bool.or_eq_true, Bool.and_eq_false_iff, Bool.or_eq_false_iff, decide_eq_true_eq, decide_eq_false_iff_not, Bool.not_eq_true', Bool.not_eq_eq_eq_not, Bool.not_true, Bool.not_false, true_and, and_true, Int.toNat_natCast, not_true_eq_false, not_false_eq_true, ne_eq, eq_self] at h1
      have hi : i < xs.length := by omega
      have hm := List.mem_of_getElem? (gt_lt (k := .int .u8) hi)
      rw [Int.toNat_natCast]
      refine ⟨⟨by omega, by omega⟩, fun h2 => h _ ?_, fun h2 => ⟨i + 1, ⟨⟨hi, all_snoc hi q2 ?_⟩, by omega⟩, rfl, rfl, rfl, by rw [w64 (by omega)]; omega, trivial⟩⟩
      · simp only [strBytes_size, ByteArray.size_append, List.length_append, List.length_cons, List.length_nil, Nat.zero_add, Bool.and_eq_true, Bool.or_eq_true, Bool.and_eq_false_iff, Bool.or_eq_false_iff, decide_eq_true_eq, decide_eq_false_iff_not, Bool.not_eq_true', Bool.not_eq_eq_eq_not, Bool.not_true, Bool.not_false, true_and, and_true, Int.toNat_natCast, not_true_eq_false, not_false_eq_true, ne_eq, eq_self] at h2
        exact ⟨fun _ => ⟨_, hm, h2⟩, fun _ => by omega⟩
      · simp only [strBytes_size, ByteArray.size_append, List.length_append, List.length_cons, List.length_nil, Nat.zero_add, Bool.and_eq_true, Bool.or_eq_true, Bool.and_eq_false_iff, Bool.or_eq_false_iff, decide_eq_true_eq, decide_eq_false_iff_not, Bool.not_eq_true', Bool.not_eq_eq_eq_not, Bool.not_true, Bool.not_false, true_and, and_true, Int.toNat_natCast, not_true_eq_false, not_false_eq_true, ne_eq, eq_self] at h2
        exact h2
    · simp only [strBytes_size, ByteArray.size_append, List.length_append, List.length_cons, List.length_nil, Nat.zero_add, Bool.and_eq_true, Bool.or_eq_true, Bool.and_eq_false_iff, Bool.or_eq_false_iff, decide_eq_true_eq, decide_eq_false_iff_not, Bool.not_eq_true', Bool.not_eq_eq_eq_not, Bool.not_true, Bool.not_false, true_and, and_true, Int.toNat_natCast, not_true_eq_false, not_false_eq_true, ne_eq, eq_self] at h1
      have hi : i = xs.length := by omega
      subst hi
      rw [List.take_length] at q2
      exact ⟨fun e => by omega, fun ⟨v, hv, e⟩ => absurd e (q2 v hv)⟩
  · exact h.elim)
noncomputable def e_idxB : List (FuncId × Con) := (75, idxBCon) :: e_idxN
theorem e_idxB_ok : ConsOk Tryd.prog (look e_idxB) := cons_cons e_idxN_ok idxB_ok
noncomputable def conNCon : Con := ⟨[.r (.int .i64), .v], fun ags M K => evFn (env e_idxB) Tryd.f53 (cfg1) ags M K⟩
theorem conN_ok : ConOk Tryd.prog 53 conNCon := fn_ok (env_ok e_idxB_ok) mixed Tryd.func53 rfl conNCon (cfg1) (fun _ _ _ h => h)
noncomputable def e_conN : List (FuncId × Con) := (53, conNCon) :: e_idxB
theorem e_conN_ok : ConsOk Tryd.prog (look e_conN) := cons_cons e_idxB_ok conN_ok
noncomputable def conBCon : Con := ⟨[.r (.int .u8), .v], fun ags M K => evFn (env e_conN) Tryd.f54 (cfg1) ags M K⟩
theorem conB_ok : ConOk Tryd.prog 54 conBCon := fn_ok (env_ok e_conN_ok) mixed Tryd.func54 rfl conBCon (cfg1) (fun _ _ _ h => h)
noncomputable def e_conB : List (FuncId × Con) := (54, conBCon) :: e_conN
theorem e_conB_ok : ConsOk Tryd.prog (look e_conB) := cons_cons e_conN_ok conB_ok
def okI (st : Int) (it : ByteArray) (j : Nat) : Prop := (32 ≤ bt it j ∧ bt it j ≤ 47) ∨ (j = 0 ∧ st = 3 ∧ 60 ≤ bt it j ∧ bt it j ≤ 63)
noncomputable def intrCon : Con := ⟨[.g [none, none, some (.int .i64), none, none]], fun ags M K => match ags, M with
  | [.agg [.val (.int .i64 st), .val (.string pt), .lt (.int .i64) ps, .val (.string it), .val (.string tx)]], [] => (it.size ≤ 4000000000000000000) ∧ ∀ r : Bool, r = pb (InterOk st it) → K (.b r) []
  | _, _ => False⟩
theorem intr_vc (st : Int) (pt : ByteArray) (ps : List Int) (it tx : ByteArray) (K : AV → List Blk → Prop) : (evFn (env e_conB) Tryd.f51 ({ cfg1 with rt := some rtB, ct := fun r => match r with | 7 => some { X := Unit, fr := fun _ => [(1, .ptr 0 0)], M := fun _ => [.flat [.i st, .s pt, .lt (.int .i64) ps, .s it, .s tx]], inv := fun _ => (st = 2 ∧ it ≠ E0) ∨ st = 3, mu := fun _ => 0 } | _ => none, lp := fun r => match r with | 8 => some { X := Nat, fr := fun i => [(1, .ptr 0 0), (18, .i it.size), (19, .i i)], M := fun _ => [.flat [.i st, .s pt, .lt (.int .i64) ps, .s it, .s tx]], inv := fun i => i ≤ it.size ∧ ∀ j : Nat, j < i → okI st it j, mu := fun i => it.size - i } | _ => none }) [.agg [.i st, .s pt, .lt (.int .i64) ps, .s it, .s tx]] [] K) = (
  ((decide (st = (2 : Int)) = true → (decide (it = ByteArray.mk #[]) = true → ∃ (x : Bool), x = false ∧ Leaf rtB K x) ∧ (decide (it = ByteArray.mk #[]) = false → ∃ (s :
  Unit), (st = (2 : Int) ∧ it ≠ E0 ∨ st = (3 : Int)) ∧ st = st ∧ pt = pt ∧ ps = ps ∧ it = it ∧ tx = tx ∧ 0 = 0 ∧ True)) ∧ (decide (st = (2 : Int)) = false → (decide (st =
  (3 : Int)) = true → ∃ (s : Unit), (st = (2 : Int) ∧ it ≠ E0 ∨ st = (3 : Int)) ∧ st = st ∧ pt = pt ∧ ps = ps ∧ it = it ∧ tx = tx ∧ 0 = 0 ∧ True) ∧ (decide (st = (3 : Int))
  = false → ∃ (x : Bool), decide (it = ByteArray.mk #[]) = x ∧ Leaf rtB K x))) ∧ ∀ (s : Unit), st = (2 : Int) ∧ it ≠ E0 ∨ st = (3 : Int) → ∃ (x0 : Nat), (x0 ≤ it.size ∧ ∀
  (j : Nat), j < x0 → okI st it j) ∧ st = st ∧ pt = pt ∧ ps = ps ∧ it = it ∧ tx = tx ∧ 0 = 0 ∧ (↑it.size : Int) = (↑it.size : Int) ∧ (0 : Int) = (↑x0 : Int) ∧ ∀ (x : Nat),
  (x ≤ it.size ∧ ∀ (j : Nat), j < x → okI st it j) → (decide ((↑x : Int) < (↑it.size : Int)) = true → ((0 : Int) ≤ (↑x : Int) ∧ (↑x : Int) < (↑it.size : Int)) ∧ ∃ (b :
  Bool), (decide ((32 : Int) ≤ bt it (↑x : Int).toNat) = true → decide (bt it (↑x : Int).toNat ≤ (47 : Int)) = b) ∧ ∃ (b_1 : Bool), ((!(decide ((32 : Int) ≤ bt it (↑x :
  Int).toNat) && b)) = true → ∃ (b : Bool), (decide ((↑x : Int) = (0 : Int)) = true → decide (st = (3 : Int)) = b) ∧ ∃ (b_2 : Bool), ((decide ((↑x : Int) = (0 : Int)) && b)
  = true → ((0 : Int) ≤ (↑x : Int) ∧ (↑x : Int) < (↑it.size : Int)) ∧ ∃ (b : Bool), (decide ((60 : Int) ≤ bt it (↑x : Int).toNat) = true → decide (bt it (↑x : Int).toNat ≤
  (63 : Int)) = b) ∧ (decide ((60 : Int) ≤ bt it (↑x : Int).toNat) && b) = b_2) ∧ (!(decide ((↑x : Int) = (0 : Int)) && b && b_2)) = b_1) ∧ ((!(decide ((32 : Int) ≤ bt it
  (↑x : Int).toNat) && b) && b_1) = true → ∃ (x : Bool), x = false ∧ Leaf rtB K x) ∧ ((!(decide ((32 : Int) ≤ bt it (↑x : Int).toNat) && b) && b_1) = false → ∃ (x' : Nat),
  ((x' ≤ it.size ∧ ∀ (j : Nat), j < x' → okI st it j) ∧ it.size - x' < it.size - x) ∧ st = st ∧ pt = pt ∧ ps = ps ∧ it = it ∧ tx = tx ∧ 0 = 0 ∧ (↑it.size : Int) = (↑it.size
  : Int) ∧ IntKind.i64.wrap ((↑x : Int) + (1 : Int)) = (↑x' : Int) ∧ True)) ∧ (decide ((↑x : Int) < (↑it.size : Int)) = false → ∃ (x : Bool), decide ((↑it.size : Int) ≤ (3
  : Int)) = x ∧ Leaf rtB K x)) := by kernel_rfl

theorem intr_ok : ConOk Tryd.prog 51 intrCon := fn_ok2 (env_ok e_conB_ok) mixed Tryd.func51 rfl intrCon (by
  intro ags M K h
  unfold intrCon at h
  simp only at h
  split at h
  · rename_i st pt ps it tx
    refine ⟨{ cfg1 with rt := some rtB, ct := fun r => match r with | 7 => some { X := Unit, fr := fun _ => [(1, .ptr 0 0)], M := fun _ => [.flat [.i st, .s pt, .lt (.int .i64) ps, .s it, .s tx]], inv := fun _ => (st = 2 ∧ it ≠ E0) ∨ st = 3, mu := fun _ => 0 } | _ => none, lp := fun r => match r with | 8 => some { X := Nat, fr := fun i => [(1, .ptr 0 0), (18, .i it.size), (19, .i i)], M := fun _ => [.flat [.i st, .s pt, .lt (.int .i64) ps, .s it, .s tx]], inv := fun i => i ≤ it.size ∧ ∀ j : Nat, j < i → okI st it j, mu := fun i => it.size - i } | _ => none }, ?_⟩
    show evFn (env e_conB) _ _ [.agg [.i st, .s pt, .lt (.int .i64) ps, .s it, .s tx]] [] _
    rw [intr_vc]
    obtain ⟨hp, h⟩ := h
    refine ⟨⟨fun h1 => ⟨fun h2 => ⟨_, rfl, h _ ?_⟩, fun h2 => ⟨(), .inl ?_, rfl, rfl, rfl, rfl, rfl, rfl, trivial⟩⟩, fun h1 => ⟨fun h2 => ⟨(), .inr ?_, rfl, rfl, rfl, rfl, rfl, rfl, trivial⟩, fun h2 => ⟨_, rfl, h _ ?_⟩⟩⟩, ?_⟩
    · simp only [strBytes_size, ByteArray.size_append, List.length_append, List.length_cons, List.length_nil, Nat.zero_add, Bool.and_eq_true, Bool.or_eq_true, Bool.and_eq_false_iff, Bool.or_eq_false_iff, decide_eq_true_eq, decide_eq_false_iff_not, Bool.not_eq_true', Bool.not_eq_eq_eq_not, Bool.not_true, Bool.not_false, true_and, and_true, Int.toNat_natCast, not_true_eq_false, not_false_eq_true, ne_eq, eq_self] at h1 h2
      refine (pb_false.2 fun e => e.1 h1 ?_).symm
      exact h2
    · simp only [strBytes_size, ByteArray.size_append, List.length_append, List.length_cons, List.length_nil, Nat.zero_add, Bool.and_eq_true, Bool.or_eq_true, Bool.and_eq_false_iff, Bool.or_eq_false_iff, decide_eq_true_eq, decide_eq_false_iff_not, Bool.not_eq_true', Bool.not_eq_eq_eq_not, Bool.not_true, Bool.not_false, true_and, and_true, Int.toNat_natCast, not_true_eq_false, not_false_eq_true, ne_eq, eq_self] at h1 h2
      exact ⟨h1, h2⟩
    · simp only [strBytes_size, ByteArray.size_append, List.length_append, List.length_cons, List.length_nil, Nat.zero_add, Bool.and_eq_true, Bool.or_eq_true, Bool.and_eq_false_iff, Bool.or_eq_false_iff, decide_eq_true_eq, decide_eq_false_iff_not, Bool.not_eq_true', Bool.not_eq_eq_eq_not, Bool.not_true, Bool.not_false, true_and, and_true, Int.toNat_natCast, not_true_eq_false, not_false_eq_true, ne_eq, eq_self] at h1 h2
      exact h2
    · simp only [strBytes_size, ByteArray.size_append, List.length_append, List.length_cons, List.length_nil, Nat.zero_add, Bool.and_eq_true, Bool.or_eq_true, Bool.and_eq_false_iff, Bool.or_eq_false_iff, decide_eq_true_eq, decide_eq_false_iff_not, Bool.not_eq_true', Bool.not_eq_eq_eq_not, Bool.not_true, Bool.not_false, true_and, and_true, Int.toNat_natCast, not_true_eq_false, not_false_eq_true, ne_eq, eq_self] at h1 h2
      refine pb_eq ?_
      rw [decide_eq_true_eq]
      constructor
      · intro e
        subst e
        exact ⟨fun e => absurd e h1, fun _ _ => rfl, by decide, fun j hj => absurd hj (by simp [ByteArray.size])⟩
      · intro e
        exact e.2.1 h1 h2
    · rintro - hst
      refine ⟨0, ⟨Nat.zero_le _, fun j hj => absurd hj (Nat.not_lt_zero _)⟩, rfl, rfl, rfl, rfl, rfl, rfl, rfl, rfl, ?_⟩
      rintro i ⟨q1, q2⟩
      refine ⟨fun h1 => ?_, fun h1 => ⟨_, rfl, h _ ?_⟩⟩
      · simp only [strBytes_size, ByteArray.size_append, List.length_append, List.length_cons, List.length_nil, Nat.zero_add, Bool.and_eq_true, Bool.or_eq_true, Bool.and_eq_false_iff, Bool.or_eq_false_iff, decide_eq_true_eq, decide_eq_false_iff_not, Bool.not_eq_true', Bool.not_eq_eq_eq_not, Bool.not_true, Bool.not_false, true_and, and_true, Int.toNat_natCast, not_true_eq_false, not_false_eq_true, ne_eq, eq_self] at h1
        have hi : i < it.size := by omega
        rw [Int.toNat_natCast]
        refine ⟨⟨by omega, by omega⟩, _, fun _ => rfl, _, fun _ => ⟨_, fun _ => rfl, _, fun _ => ⟨⟨by omega, by omega⟩, _, fun _ => rfl, rfl⟩, rfl⟩, fun h2 => ⟨_, rfl, h _ ?_⟩, fun h2 => ⟨i + 1, ⟨⟨hi, ?_⟩, by omega⟩, rfl, rfl, rfl, rfl, rfl, rfl, rfl, by rw [w64 (by omega)]; omega, trivial⟩⟩
        · simp only [strBytes_size, ByteArray.size_append, List.length_append, List.length_cons, List.length_nil, Nat.zero_add, Bool.and_eq_true, Bool.or_eq_true, Bool.and_eq_false_iff, Bool.or_eq_false_iff, decide_eq_true_eq, decide_eq_false_iff_not, Bool.not_eq_true', Bool.not_eq_eq_eq_not, Bool.not_true, Bool.not_false, true_and, and_true, Int.toNat_natCast, not_true_eq_false, not_false_eq_true, ne_eq, eq_self] at h2
          refine (pb_false.2 fun e => ?_).symm
          have := e.2.2.2 i hi
          omega
        · intro j hj
          by_cases e : j = i
          · subst e
            simp only [strBytes_size, ByteArray.size_append, List.length_append, List.length_cons, List.length_nil, Nat.zero_add, Bool.and_eq_true, Bool.or_eq_true, Bool.and_eq_false_iff, Bool.or_eq_false_iff, decide_eq_true_eq, decide_eq_false_iff_not, Bool.not_eq_true', Bool.not_eq_eq_eq_not, Bool.not_true, Bool.not_false, true_and, and_true, Int.toNat_natCast, not_true_eq_false, not_false_eq_true, ne_eq, eq_self] at h2
            unfold okI
            rcases h2 with h2 | h2
            · exact .inl (by simpa using h2)
            · refine .inr ?_
              simp at h2
              omega
          · exact q2 j (by omega)
      · simp only [strBytes_size, ByteArray.size_append, List.length_append, List.length_cons, List.length_nil, Nat.zero_add, Bool.and_eq_true, Bool.or_eq_true, Bool.and_eq_false_iff, Bool.or_eq_false_iff, decide_eq_true_eq, decide_eq_false_iff_not, Bool.not_eq_true', Bool.not_eq_eq_eq_not, Bool.not_true, Bool.not_false, true_and, and_true, Int.toNat_natCast, not_true_eq_false, not_false_eq_true, ne_eq, eq_self] at h1
        have hi : i = it.size := by omega
        subst hi
        refine pb_eq ?_
        rw [decide_eq_true_eq]
        constructor
        · intro e
          refine ⟨fun e2 => ?_, fun e2 e3 => ?_, by omega, q2⟩
          · rcases hst with hst | hst
            · exact hst.2
            · omega
          · rcases hst with hst | hst
            · exact absurd hst.1 e2
            · exact absurd hst e3
        · intro e; have := e.2.2.1; omega
  · exact h.elim)
noncomputable def e_intr : List (FuncId × Con) := (51, intrCon) :: e_conB
theorem e_intr_ok : ConsOk Tryd.prog (look e_intr) := cons_cons e_conB_ok intr_ok
theorem bytesL_get {s : ByteArray} {j : Nat} (h : j < s.size) : (bytesL s)[j]? = some (bt s j) := by
  have h' : j < s.data.toList.length := h
  simp only [bytesL, List.getElem?_map, bt]
  rw [List.getElem?_eq_getElem h']; rfl
theorem bt_mem {s : ByteArray} {j : Nat} (h : j < s.size) : bt s j ∈ bytesL s := List.mem_of_getElem? (bytesL_get h)
theorem mem_bt {s : ByteArray} {v : Int} (h : v ∈ bytesL s) : ∃ j, j < s.size ∧ bt s j = v := by
  obtain ⟨j, hj⟩ := List.getElem?_of_mem h
  have hl := (List.getElem?_eq_some_iff.1 hj).1
  rw [bytesL_len] at hl
  rw [bytesL_get hl] at hj
  exact ⟨j, hl, Option.some.inj hj⟩
noncomputable def vmayCon : Con := ⟨[.g [none, none, some (.int .i64), none, none]], fun ags M K => match ags, M with
  | [.agg [.val (.int .i64 st), .val (.string pt), .lt (.int .i64) ps, .val (.string it), .val (.string tx)]], [] => (it.size ≤ 4000000000000000000 ∧ tx.size ≤ 4000000000000000000 ∧ ps.length ≤ 4000000000000000000) ∧ ∀ r : Bool, r = pb (StOk ⟨st, pt, ps, it, tx⟩) → K (.b r) []
  | _, _ => False⟩
theorem vmay_vc (st : Int) (pt : ByteArray) (ps : List Int) (it tx : ByteArray) (K : AV → List Blk → Prop) : (evFn (env e_intr) Tryd.f42 ({ cfg1 with rt := some rtB }) [.agg [.i st, .s pt, .lt (.int .i64) ps, .s it, .s tx]] [] K) = (
  ∃ (b : Bool), (decide (st < (0 : Int)) = false → decide ((8 : Int) < st) = b) ∧ ∃ (b_1 : Bool), ((decide (st < (0 : Int)) || b) = false → ∃ (b : Bool), ((!decide (pt =
  ByteArray.mk #[])) = true → ∃ (b_2 : Bool), ((!decide (st = (0 : Int))) = false → ∀ (r : Bool), r = partS pt → (!r) = b_2) ∧ (!decide (st = (0 : Int)) || b_2) = b) ∧
  (!decide (pt = ByteArray.mk #[]) && b) = b_1) ∧ ∃ (b_2 : Bool), ((decide (st < (0 : Int)) || b || b_1) = false → it.size ≤ 4000000000000000000 ∧ ∀ (r : Bool), r = pb
  (InterOk st it) → (!r) = b_2) ∧ ((decide (st < (0 : Int)) || b || b_1 || b_2) = true → ∃ (x : Bool), x = false ∧ Leaf rtB K x) ∧ ((decide (st < (0 : Int)) || b || b_1 ||
  b_2) = false → ∃ (b : Bool), (decide ((16 : Int) < (↑ps.length : Int)) = false → ∃ (b_3 : Bool), (decide ((0 : Int) < (↑ps.length : Int)) = true → (!decide (st = (3 :
  Int))) = b_3) ∧ (decide ((0 : Int) < (↑ps.length : Int)) && b_3) = b) ∧ ∃ (b_3 : Bool), ((decide ((16 : Int) < (↑ps.length : Int)) || b) = false → ps.length ≤
  4000000000000000000 ∧ ∀ (r : Int), ((0 : Int) ≤ r ↔ ∃ (v : El (Kd.int IntKind.i64)), v ∈ ps ∧ (v < (-1 : El (Kd.int IntKind.i64)) ∨ (9999 : El (Kd.int IntKind.i64)) < v))
  → decide ((0 : Int) ≤ r) = b_3) ∧ ((decide ((16 : Int) < (↑ps.length : Int)) || b || b_3) = true → ∃ (x : Bool), x = false ∧ Leaf rtB K x) ∧ ((decide ((16 : Int) <
  (↑ps.length : Int)) || b || b_3) = false → ∃ (b : Bool), ((!decide (tx = ByteArray.mk #[])) = true → (!decide (st = (5 : Int))) = b) ∧ ∃ (b_4 : Bool), ((!decide (tx =
  ByteArray.mk #[]) && b) = true → (!decide (st = (7 : Int))) = b_4) ∧ ∃ (b_5 : Bool), ((!decide (tx = ByteArray.mk #[]) && b && b_4) = false → decide ((64 : Int) <
  (↑tx.size : Int)) = b_5) ∧ ((!decide (tx = ByteArray.mk #[]) && b && b_4 || b_5) = true → ∃ (x : Bool), x = false ∧ Leaf rtB K x) ∧ ((!decide (tx = ByteArray.mk #[]) && b
  && b_4 || b_5) = false → tx.size ≤ 4611686018427387904 ∧ (bytesL tx).length ≤ 4000000000000000000 ∧ ∀ (r : Int), ((0 : Int) ≤ r ↔ ∃ (v : El (Kd.int IntKind.u8)), v ∈
  bytesL tx ∧ v < (32 : El (Kd.int IntKind.u8))) → ∃ (x : Bool), (!decide ((0 : Int) ≤ r)) = x ∧ Leaf rtB K x)))) := by kernel_rfl

theorem vmay_ok : ConOk Tryd.prog 42 vmayCon := fn_ok2 (env_ok e_intr_ok) mixed Tryd.func42 rfl vmayCon (by
  intro ags M K h
  unfold vmayCon at h
  simp only at h
  split at h
  · rename_i st pt ps it tx
    refine ⟨{ cfg1 with rt := some rtB }, ?_⟩
    show evFn (env e_intr) _ _ [.agg [.i st, .s pt, .lt (.int .i64) ps, .s it, .s tx]] [] _
    rw [vmay_vc]
    obtain ⟨hp, h⟩ := h
    obtain ⟨p1, p2, p3⟩ := hp
    refine ⟨_, fun _ => rfl, _, fun _ => ⟨_, fun _ => ⟨_, fun _ r hr => congrArg not hr, rfl⟩, rfl⟩, _, fun _ => ⟨p1, fun r hr => congrArg not hr⟩, fun h1 => ⟨_, rfl, h _ ?_⟩, fun h1 => ⟨_, fun _ => ⟨_, fun _ => rfl, rfl⟩, pb (∃ v ∈ (ps : List Int), v < -1 ∨ 9999 < v), fun _ => ⟨p3, fun r hr => pb_eq (by rw [decide_eq_true_eq]; exact hr)⟩, fun h2 => ⟨_, rfl, h _ ?_⟩, fun h2 => ⟨_, fun _ => rfl, _, fun _ => rfl, _, fun _ => rfl, fun h3 => ⟨_, rfl, h _ ?_⟩, fun h3 => ⟨by omega, by rw [bytesL_len]; exact p2, fun r hr => ⟨_, rfl, h _ ?_⟩⟩⟩⟩⟩
    · simp only [strBytes_size, ByteArray.size_append, List.length_append, List.length_cons, List.length_nil, Nat.zero_add, Bool.and_eq_true, Bool.or_eq_true, Bool.and_eq_false_iff, Bool.or_eq_false_iff, decide_eq_true_eq, decide_eq_false_iff_not, Bool.not_eq_true', Bool.not_eq_eq_eq_not, Bool.not_true, Bool.not_false, true_and, and_true, Int.toNat_natCast, not_true_eq_false, not_false_eq_true, ne_eq, eq_self, pb_false] at h1
      refine (pb_false.2 fun e => ?_).symm
      obtain ⟨e1, e2, e3, e4, e5, e6, e7, e8, e9⟩ := e
      dsimp only at *
      rcases h1 with ((h1 | h1) | ⟨h1, h1' | h1'⟩) | h1
      · omega
      · omega
      · exact h1' (e2 h1).1
      · rw [(e2 h1).2] at h1'; cases h1'
      · exact h1 e3
    · simp only [strBytes_size, ByteArray.size_append, List.length_append, List.length_cons, List.length_nil, Nat.zero_add, Bool.and_eq_true, Bool.or_eq_true, Bool.and_eq_false_iff, Bool.or_eq_false_iff, decide_eq_true_eq, decide_eq_false_iff_not, Bool.not_eq_true', Bool.not_eq_eq_eq_not, Bool.not_true, Bool.not_false, true_and, and_true, Int.toNat_natCast, not_true_eq_false, not_false_eq_true, ne_eq, eq_self, pb_true] at h2
      refine (pb_false.2 fun e => ?_).symm
      obtain ⟨e1, e2, e3, e4, e5, e6, e7, e8, e9⟩ := e
      dsimp only at *
      rcases h2 with (h2 | h2) | ⟨v, h2, h3⟩
      · omega
      · exact h2.2 (e5 (by omega))
      · have h4 := e6 v h2
        have h3 : @LT.lt Int _ v (-1) ∨ @LT.lt Int _ 9999 v := h3
        omega
    · simp only [strBytes_size, ByteArray.size_append, List.length_append, List.length_cons, List.length_nil, Nat.zero_add, Bool.and_eq_true, Bool.or_eq_true, Bool.and_eq_false_iff, Bool.or_eq_false_iff, decide_eq_true_eq, decide_eq_false_iff_not, Bool.not_eq_true', Bool.not_eq_eq_eq_not, Bool.not_true, Bool.not_false, true_and, and_true, Int.toNat_natCast, not_true_eq_false, not_false_eq_true, ne_eq, eq_self] at h3
      refine (pb_false.2 fun e => ?_).symm
      obtain ⟨e1, e2, e3, e4, e5, e6, e7, e8, e9⟩ := e
      dsimp only at *
      rcases h3 with ⟨⟨h3, h4⟩, h5⟩ | h3
      · rcases e7 h3 with e | e
        · exact h4 e
        · exact h5 e
      · omega
    · refine pb_eq ?_
      simp only [strBytes_size, ByteArray.size_append, List.length_append, List.length_cons, List.length_nil, Nat.zero_add, Bool.and_eq_true, Bool.or_eq_true, Bool.and_eq_false_iff, Bool.or_eq_false_iff, decide_eq_true_eq, decide_eq_false_iff_not, Bool.not_eq_true', Bool.not_eq_eq_eq_not, Bool.not_true, Bool.not_false, true_and, and_true, Int.toNat_natCast, not_true_eq_false, not_false_eq_true, ne_eq, eq_self, pb_true, pb_false] at h1 h2 h3 ⊢
      constructor
      · intro hr0
        refine ⟨by dsimp only; omega, fun e => ?_, ?_, by dsimp only; omega, fun e => ?_, fun v hv => ?_, fun e => ?_, by dsimp only; omega, fun j hj => ?_⟩
        all_goals dsimp only at *
        · rcases h1.1.2 with h | h
          · exact absurd h (by simpa using e)
          · simpa using h
        · simpa using h1.2
        · rcases h2.1.2 with h | h
          · omega
          · simpa using h
        · apply Classical.byContradiction
          intro hc
          have h5 : @LT.lt Int _ v (-1) ∨ @LT.lt Int _ 9999 v := by omega
          exact h2.2 ⟨v, hv, h5⟩
        · rcases h3.1 with (h | h) | h
          · exact absurd h (by simpa using e)
          · left; simpa using h
          · right; simpa using h
        · apply Classical.byContradiction
          intro hc
          have h5 : @LT.lt Int _ (bt tx j) 32 := by omega
          exact hr0 (hr.2 ⟨bt tx j, bt_mem hj, h5⟩)
      · intro e
        obtain ⟨e1, e2, e3, e4, e5, e6, e7, e8, e9⟩ := e
        dsimp only at *
        intro hr0
        obtain ⟨v, hv, hlt⟩ := hr.1 hr0
        obtain ⟨j, hj, rfl⟩ := mem_bt hv
        have h5 := e9 j hj
        have hlt : @LT.lt Int _ (bt tx j) 32 := hlt
        omega
  · exact h.elim)
noncomputable def e_vmay : List (FuncId × Con) := (42, vmayCon) :: e_intr
theorem e_vmay_ok : ConsOk Tryd.prog (look e_vmay) := cons_cons e_intr_ok vmay_ok
end Go.Cx
end
section
namespace Go.Cx
open Go Go.Sx Go.Proofs
set_option maxRecDepth 100000
set_option maxHeartbeats 0
/-! new memory -/
def cp0Con (k : Kd) : Con := ⟨[.v], fun ags M K => match ags, M with
  | [.val (.slice none 0 0)], [] => K (.own 0) [.arr k []]
  | _, _ => False⟩
def cp1Con (k : Kd) : Con := ⟨[.v], fun ags M K => match ags, M with
  | [.val (.slice (some _) 0 _)], [] => K (.own 0) [.arr k []]
  | _, _ => False⟩
def cp2Con (k : Kd) (bd : List (El k) → Prop) : Con := ⟨[.r k], fun ags M K => match ags, M with
  | [.lt k' xs], [] => match castL (k := k) xs with
    | some xs => (0 < xs.length ∧ bd xs) ∧ K (.own 0) [.arr k xs]
    | none => False
  | _, _ => False⟩
/-- a slice in new memory -/
def cpCon (k : Kd) (bd : List (El k) → Prop) : Con := ⟨[.r k], fun ags M K => match ags, M with
  | [.lt _ xs], [] => match castL (k := k) xs with
    | some xs => bd xs ∧ K (.own 0) [.arr k xs]
    | none => False
  | _, _ => False⟩
theorem cp_ok {k : Kd} {bd : List (El k) → Prop} {f : FuncId} (h0 : ConOk Tryd.prog f (cp0Con k)) (h1 : ConOk Tryd.prog f (cp1Con k)) (h2 : ConOk Tryd.prog f (cp2Con k bd)) : ConOk Tryd.prog f (cpCon k bd) := by
  intro ags M K h
  unfold cpCon at h
  simp only at h
  split at h
  · rename_i k' xs
    split at h
    · rename_i xs' hc
      obtain ⟨e, rfl⟩ := castL_some hc
      subst e
      obtain ⟨hb, h⟩ := h
      refine ⟨.own 0, [.arr k' xs], h, fun w0 F Hp hs w vs hi hr => ?_⟩
      obtain ⟨v, vs', rfl, hv, ht⟩ := Reps.inv_cons hr
      have ht := ht.inv_nil
      subst ht
      have key : ∀ {ags : List AV} {c : Con} (hc : ConOk Tryd.prog f c) (hev : c.ev ags [] fun av M => av = .own 0 ∧ M = [.arr k' xs]), Reps F Hp hs ags [v] → Runs Tryd.prog f [v] w fun v w' => ∃ Hp' hs', Hp.le Hp' ∧ (∀ i : Nat, i < 0 → hs'[i]? = hs[i]?) ∧ InvS w0 F Hp' hs' [.arr k' xs] w' ∧ Rep F Hp' hs' (.own 0) v := by
        intro ags c hc hev hr
        obtain ⟨av, M', ⟨rfl, rfl⟩, hrun⟩ := hc _ _ _ hev
        exact hrun w0 F Hp hs w [v] hi hr
      cases hv with
      | lt _ _ A cap css g1 g2 g3 g4 g5 =>
        cases A with
        | none =>
          have hcap := g3 rfl
          subst hcap
          have hx : xs = [] := List.length_eq_zero_iff.1 (by omega)
          subst hx
          exact key (ags := [.val (.slice none 0 0)]) h0 ⟨rfl, rfl⟩ (.cons (.val _) .nil)
        | some a =>
          by_cases hx : xs = []
          · subst hx
            exact key (ags := [.val (.slice (some a) 0 cap)]) h1 ⟨rfl, rfl⟩ (.cons (.val _) .nil)
          · refine key (ags := [.lt k' xs]) h2 ?_ (.cons (.lt _ _ _ cap css g1 g2 g3 g4 g5) .nil)
            show (match castL (k := k') xs with | some xs' => (0 < xs'.length ∧ bd xs') ∧ (AV.own 0 = AV.own 0 ∧ [Blk.arr k' xs'] = [Blk.arr k' xs]) | none => False)
            rw [castL_self]
            exact ⟨⟨List.length_pos_iff.2 hx, hb⟩, rfl, rfl⟩
    · exact h.elim
  · exact h.elim
def rtC (k : Kd) : Lr := ⟨List (El k), fun _ => [.own 0], fun x => [.arr k x]⟩
theorem clN0_vc (K : AV → List Blk → Prop) : (evFn (env e_vmay) Tryd.f43 ({ cfg1 with rt := some (rtC (.int .i64)) }) [.val (.slice none 0 0)] [] K) = (
  ∃ (x : List (El (Kd.int IntKind.i64))), [] = x ∧ Leaf (rtC (Kd.int IntKind.i64)) K x) := by kernel_rfl

theorem clN0_ok : ConOk Tryd.prog 43 (cp0Con (.int .i64)) := fn_ok2 (env_ok e_vmay_ok) mixed Tryd.func43 rfl (cp0Con (.int .i64)) (by
  intro ags M K h
  unfold cp0Con at h
  simp only at h
  split at h
  · refine ⟨{ cfg1 with rt := some (rtC (.int .i64)) }, ?_⟩
    show evFn (env e_vmay) _ _ [.val (.slice none 0 0)] [] _
    rw [clN0_vc]
    exact ⟨_, rfl, h⟩
  · exact h.elim)
theorem clN1_vc (a : Addr) (c : Nat) (K : AV → List Blk → Prop) : (evFn (env e_vmay) Tryd.f43 ({ cfg1 with rt := some (rtC (.int .i64)) }) [.val (.slice (some a) 0 c)] [] K) = (
  (0 ≤ 140737488355328 ∧ 0 ≤ 140737488355328) ∧ ∃ (x : List (El (Kd.int IntKind.i64))), [] ++ [] = x ∧ Leaf (rtC (Kd.int IntKind.i64)) K x) := by kernel_rfl

theorem clN1_ok : ConOk Tryd.prog 43 (cp1Con (.int .i64)) := fn_ok2 (env_ok e_vmay_ok) mixed Tryd.func43 rfl (cp1Con (.int .i64)) (by
  intro ags M K h
  unfold cp1Con at h
  simp only at h
  split at h
  · rename_i a c
    refine ⟨{ cfg1 with rt := some (rtC (.int .i64)) }, ?_⟩
    show evFn (env e_vmay) _ _ [.val (.slice (some a) 0 c)] [] _
    rw [clN1_vc]
    exact ⟨⟨by omega, by omega⟩, _, rfl, h⟩
  · exact h.elim)
theorem clN2_vc (xs : List (El (.int .i64))) (K : AV → List Blk → Prop) : (evFn (env e_vmay) Tryd.f43 ({ cfg1 with rt := some (rtC (.int .i64)) }) [.lt (.int .i64) xs] [] K) = (
  0 < xs.length ∧ (0 + xs.length ≤ 140737488355328 ∧ (0 + xs.length) * 8 ≤ 140737488355328) ∧ ∃ (x : List (El (Kd.int IntKind.i64))), [] ++ xs = x ∧ Leaf (rtC (Kd.int
  IntKind.i64)) K x) := by kernel_rfl

theorem clN2_ok : ConOk Tryd.prog 43 (cp2Con (.int .i64) (fun xs => xs.length ≤ 100000000)) := fn_ok2 (env_ok e_vmay_ok) mixed Tryd.func43 rfl (cp2Con (.int .i64) (fun xs => xs.length ≤ 100000000)) (by
  intro ags M K h
  unfold cp2Con at h
  simp only at h
  split at h
  · split at h
    · rename_i xs hc
      obtain ⟨e, rfl⟩ := castL_some hc
      subst e
      rename_i xs
      refine ⟨{ cfg1 with rt := some (rtC (.int .i64)) }, ?_⟩
      show evFn (env e_vmay) _ _ [.lt (.int .i64) xs] [] _
      rw [clN2_vc]
      exact ⟨h.1.1, ⟨by have hb : xs.length ≤ 100000000 := h.1.2; omega, by have hb : xs.length ≤ 100000000 := h.1.2; omega⟩, _, rfl, h.2⟩
    · exact h.elim
  · exact h.elim)
def clNCon : Con := cpCon (.int .i64) (fun xs => xs.length ≤ 100000000)
theorem clN_ok : ConOk Tryd.prog 43 clNCon := cp_ok clN0_ok clN1_ok clN2_ok
noncomputable def e_clN : List (FuncId × Con) := (43, clNCon) :: e_vmay
theorem e_clN_ok : ConsOk Tryd.prog (look e_clN) := cons_cons e_vmay_ok clN_ok
def cpLp (k : Kd) (xs : List (El k)) : Lp := { X := Nat, fr := fun i => [(0, .lt k xs), (3, .own 0), (4, .i i)], M := fun i => [.arr k (xs.take i)], inv := fun i => i ≤ xs.length, mu := fun i => xs.length - i }
noncomputable def cpNCon : Con := ⟨[.r (.int .i64)], fun ags M K => match ags, M with
  | [.lt (.int .i64) xs], [] => (xs.length ≤ 100000000) ∧ (K (.own 0) [ints xs])
  | _, _ => False⟩
theorem cpN_vc (xs : List Int) (K : AV → List Blk → Prop) : (evFn (env e_clN) Tryd.f17 ({ cfg1 with rt := some (rtC (.int .i64)), lp := fun r => match r with | 3 => some (cpLp (.int .i64) xs) | _ => none }) [.lt (.int .i64) xs] [] K) = (
  ∃ (x0 : Nat), x0 ≤ xs.length ∧ [] = List.take x0 xs ∧ xs = xs ∧ (0 : Int) = (↑x0 : Int) ∧ ∀ (x : Nat), x ≤ xs.length → (decide ((↑x : Int) < (↑xs.length : Int)) = true →
  ((0 : Int) ≤ (↑x : Int) ∧ (↑x : Int) < (↑xs.length : Int)) ∧ ((List.take x xs).length + [gt (Kd.int IntKind.i64) xs (↑x : Int).toNat].length ≤ 140737488355328 ∧
  ((List.take x xs).length + [gt (Kd.int IntKind.i64) xs (↑x : Int).toNat].length) * 8 ≤ 140737488355328) ∧ ∃ (x' : Nat), (x' ≤ xs.length ∧ xs.length - x' < xs.length - x)
  ∧ List.take x xs ++ [gt (Kd.int IntKind.i64) xs (↑x : Int).toNat] = List.take x' xs ∧ xs = xs ∧ IntKind.i64.wrap ((↑x : Int) + (1 : Int)) = (↑x' : Int) ∧ True) ∧ (decide
  ((↑x : Int) < (↑xs.length : Int)) = false → ∃ (x_1 : List (El (Kd.int IntKind.i64))), List.take x xs = x_1 ∧ Leaf (rtC (Kd.int IntKind.i64)) K x_1)) := by kernel_rfl

theorem cpN_ok : ConOk Tryd.prog 17 cpNCon := fn_ok2 (env_ok e_clN_ok) mixed Tryd.func17 rfl cpNCon (by
  intro ags M K h
  unfold cpNCon at h
  simp only at h
  split at h
  · rename_i xs
    refine ⟨{ cfg1 with rt := some (rtC (.int .i64)), lp := fun r => match r with | 3 => some (cpLp (.int .i64) xs) | _ => none }, ?_⟩
    show evFn (env e_clN) _ _ [.lt (.int .i64) xs] [] _
    rw [cpN_vc]
    obtain ⟨hp, h⟩ := h
    refine ⟨0, Nat.zero_le _, rfl, rfl, rfl, ?_⟩
    intro i q1
    refine ⟨fun h1 => ?_, fun h1 => ⟨_, rfl, ?_⟩⟩
    · have h1 := of_decide_eq_true h1
      have hi : i < xs.length := by omega
      rw [Int.toNat_natCast]
      have hl : (xs.take i).length = i := by rw [List.length_take]; omega
      refine ⟨⟨by omega, by omega⟩, ⟨by rw [hl]; simp; omega, by rw [hl]; simp; omega⟩, i + 1, ⟨hi, by omega⟩, ?_, rfl, by rw [w64 (by omega)]; omega, trivial⟩
      rw [List.take_add_one, gt_lt hi]; rfl
    · have h1 := of_decide_eq_false h1
      have hi : i = xs.length := by omega
      subst hi
      rw [List.take_length]
      exact h
  · exact h.elim)
noncomputable def e_cpN : List (FuncId × Con) := (17, cpNCon) :: e_clN
theorem e_cpN_ok : ConsOk Tryd.prog (look e_cpN) := cons_cons e_clN_ok cpN_ok
end Go.Cx
end
