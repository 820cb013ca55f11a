/- A law is proved out of the functions' contracts. Conditions: none beyond those of the given statement. -/
import Derived.Test.YtcdpapgkgiifjaaDoorT1
import Derived.Test.YtcdpapgkgiifjaaDoorT3
import Derived.Test.YtcdpapgkgiifjaaDoorSx4
import Derived.Test.YtcdpapgkgiifjaaDoorRows
import Derived.Test.YtcdpapgkgiifjaaDoorTie
import Derived.ProofKit
import Derived.SizedLaws
import Derived.SliceStrings
import Derived.ChangeSame
import Derived.Handed
import Derived.ChangeVars
import Derived.Carry
import Derived.LaidLaws
import Derived.LaidHandle
import Derived.LaidByTextLater
import Derived.Lib.LaidU8
import Derived.Lib.LaidIn
import Derived.JoinedOf
import Derived.Test.YtcdpapgkgiifjaaDoorCards
import Derived.SevenTiedAt
set_option linter.unusedVariables false
set_option linter.unusedSimpArgs false
section
namespace Go.Proofs.YtcdpapgkgiifjaaDoor
open Go Go.Sx Go.ChangeShapes Go.WideShapes Go.ChangeAt Go.RowKit
set_option maxRecDepth 100000
theorem Tryd.own : ownKnob Tryd.prog.godebug = none := by kernel_rfl
theorem Tryd.laidOut : laidOutB Tryd.prog = true := by kernel_rfl
def lds : List (String × DataW Unit) := [("unicode/utf8.acceptRanges", Rows.laid_unicode_utf8_acceptRanges), ("unicode/utf8.first", Rows.laid_unicode_utf8_first)]
theorem acc_eq : (Rows.laid_unicode_utf8_acceptRanges : DataW Unit) = Lib.acceptData := by kernel_rfl
theorem first_eq : (Rows.laid_unicode_utf8_first : DataW Unit) = Lib.firstData := by kernel_rfl
theorem u8x : U8Extra Tryd.prog Tryd.lays260_ren := ⟨by kernel_rfl, by kernel_rfl, by kernel_rfl, by kernel_rfl, by kernel_rfl, by kernel_rfl, by kernel_rfl⟩
theorem plain_lds : lds.all (fun x => x.2.handleName?.isNone) = true := by kernel_rfl
theorem tabs_of {W : World} (h : laidMetH Tryd.prog lds W) : ∀ g3 g4, Tryd.prog.globalNamed "unicode/utf8.first" = some g3 → Tryd.prog.globalNamed "unicode/utf8.acceptRanges" = some g4 → Lib.Utf8Tabs g3 g4 W := by
  intro g3 g4 h3 h4
  obtain ⟨hm, _⟩ := laidMetH_iff.1 h
  have e : (lds.filter fun x => x.2.handleName?.isNone) = lds := by kernel_rfl
  rw [e] at hm
  have r4 := Lib.laidMet.reads hm (n := "unicode/utf8.acceptRanges") (d := Rows.laid_unicode_utf8_acceptRanges) (.head _)
  have r3 := Lib.laidMet.reads hm (n := "unicode/utf8.first") (d := Rows.laid_unicode_utf8_first) (.tail _ (.head _))
  rw [acc_eq] at r4
  rw [first_eq] at r3
  obtain rfl := Option.some.inj (u8x.n3.symm.trans h3)
  obtain rfl := Option.some.inj (u8x.n4.symm.trans h4)
  exact utf8Tabs_of_reads Tryd.lays260 u8x r3 r4
/-- a world that meets the condition -/
noncomputable def laidWorld (os : Os) : World :=
  let w0 := World.holding Tryd.prog os ⟨#[], #[], []⟩
  let put (h : Array Obj) (g : Nat) (cs : Array Value) : Array Obj := h.modify g fun
    | .cells _ t frozen => .cells cs t frozen
    | o => o
  let h1 := put w0.heap 0 (Lib.firstTab.map fun z => Value.int .u8 z).toArray
  let h2 := put h1 1 ((List.range 16).flatMap fun i => [Value.int .u8 (Lib.accLo i), Value.int .u8 (Lib.accHi i)]).toArray
  { w0 with heap := h2 }
theorem laidWorld_met (os : Os) (args : Array Value) : laidMetH Tryd.prog lds ((laidWorld os).forCall (fun _ _ => 0) ⟨#[], args, []⟩).memory :=
  laidMetH_of_parts (LaidIn.of_run [0, 1] 8 (by kernel_rfl) (by kernel_rfl) (by kernel_rfl) (by kernel_rfl)).met (by kernel_rfl)
end Go.Proofs.YtcdpapgkgiifjaaDoor
end
section
namespace Go.Proofs.YtcdpapgkgiifjaaDoor
open Go Go.Sx Go.ChangeShapes Go.WideShapes Go.ChangeAt Go.RowKit
set_option maxRecDepth 100000
theorem strs_weights {H : Type} {P : Program} {e : TypeId} : ∀ (ss : List ByteArray) (s : ByteArray), s ∈ ss → s.size ∈ DataW.weightsAll P e (strs (H := H) ss)
  | s0 :: ss, s, h => by
    show s.size ∈ DataW.weightsAll P e (.lit (.string s0.data.toList) :: strs ss)
    simp only [DataW.weightsAll, DataW.weights, List.mem_append, List.mem_singleton]
    rcases List.mem_cons.1 h with rfl | h
    · left; simp
    · right; exact strs_weights ss s h
/-- a slice of strings, opened -/
theorem open_strs16 {H : Type} {enc : TypeId × Value → H} {P : Program} {W : World} {t e : TypeId} {fuel : Nat} {cs : List Value} {x : DataW H × List MemPlace} (ht : P.underlying t = some (.slice e)) (he : P.underlying e = some .string) (hc : P.cellsOf e = 1) (hb : P.bytesOf e = 16)
    (h : DataW.trod enc P W 0 (fun _ => true) true fuel t cs = some x) (hz : ∀ n ∈ x.1.weights P t, n ≤ reachBytes) :
    ∃ (l : List ByteArray) (v : Value), cs = [v] ∧ Rep (heapPH W) (fun _ => none) [] (.lt .str l) v ∧ l.length * 16 ≤ reachBytes ∧ ∀ s ∈ l, s.size ≤ reachBytes := by
  rcases open_strings ht he hc h with ⟨hcs, hx⟩ | ⟨a, len, cap, ss, hcs, _, hl, hm, hlen, hx, hcell, hsz⟩
  · exact ⟨[], _, hcs, .lt .str [] none 0 (fun _ => []) (Nat.le_refl _) trivial (fun _ => rfl) (fun i x h => by simp at h) (fun i x j c h => by simp at h), by simp, fun s h => by simp at h⟩
  · have hlc : len ≤ ss.length := by rw [hlen]; simp; exact hl
    refine ⟨ss.take len, _, hcs, strs_rep hl hlc hcell, ?_, ?_⟩
    · subst hx
      have h1 : ((strs (H := H) (ss.take len)).length + (strs (H := H) (ss.drop len)).length) * P.bytesOf e ≤ reachBytes := hz _ (by simp [DataW.weights, ht])
      rw [hb] at h1
      have : (strs (H := H) (ss.take len)).length = (ss.take len).length := by simp [strs]
      rw [this] at h1
      exact Nat.le_trans (Nat.mul_le_mul_right 16 (Nat.le_add_right _ _)) h1
    · intro s hs
      subst hx
      refine hz _ ?_
      simp only [DataW.weights, ht]
      exact List.mem_cons_of_mem _ (List.mem_append_left _ (strs_weights _ _ hs))
/-- a struct of one field, opened -/
theorem open_struct1 {H : Type} {enc : TypeId × Value → H} {P : Program} {W : World} {t : TypeId} {f0 : Field} {v : Value} {d : DataW H} {p : List MemPlace} {base : Nat} (ht : P.underlying t = some (.struct #[f0])) (hc : P.cellsOf t = 1) (h0 : f0.offset = 0) (hc0 : P.cellsOf f0.type = 1)
    (hv : Value.okWide P W .any base t v) (h : DataW.Trod enc P W 0 (fun _ => true) true t v d p) :
    ∃ u y n, v = .agg #[u] ∧ d = .agg [y.1] ∧ DataW.trod enc P W 0 (fun _ => true) true n f0.type [u] = some y := by
  obtain ⟨cs, rfl, hcs⟩ := okWide_struct ht hv
  obtain ⟨fuel, hf⟩ := h
  have e : (Value.agg cs).cells = cs := rfl
  rw [e] at hf
  rw [hc] at hcs
  obtain ⟨u, hu⟩ : ∃ u, cs = #[u] := by
    match cs, hcs with
    | ⟨[u]⟩, _ => exact ⟨u, rfl⟩
  subst hu
  obtain ⟨y0, n, hx, _, hy⟩ := trod_struct1 ht hf
  rw [h0, hc0] at hy
  cases hx
  exact ⟨u, y0, n, rfl, rfl, hy⟩
theorem utfAll_lifted (os : Os) (started : os.Started) (H : Type) (enc : TypeId × Value → H) :
    ReturnsInHanded {} Tryd.checked os 3 .any (fun w args => (Rows.utfAllSpec.pre enc Tryd.prog Tryd.f3 [] false w args ∧ laidMetH Tryd.prog lds w) ∧ sizedMet enc Tryd.prog Tryd.f3 (OpenSpec.ofChange Rows.utfAllSpec) false w args)
      (Rows.utfAllSpec.post enc Tryd.prog Tryd.f3 false true false false) := by
  refine returnsInHanded_of_change_and (C := Tryd.checked) (X := fun w _ => laidMetH Tryd.prog lds w) (fun _ _ _ hh h => h.of_heap hh) Tryd.own started (by kernel_rfl) Tryd.func3
    (ChangeSpec.witness_at (enc := enc) (C := Tryd.checked) (os := os) (X := fun w _ => laidMetH Tryd.prog lds w) false (laidWorld os) #[.agg #[.slice none 0 0]] 8 rfl (by kernel_rfl) (by kernel_rfl) (by kernel_rfl) (by kernel_rfl) (by kernel_rfl) (laidWorld_met os _)) ?_
  intro W base args ds gs before hval0 hW _ hsz0 hL _
  have hsz : (DataW.weightsEach Tryd.prog (Tryd.f3.params.toList ++ Rows.utfAllSpec.plain.varTypes Tryd.prog) (ds ++ gs)).all (· ≤ reachBytes) = true := hsz0
  have hval : ∀ (j : Nat) t v, Tryd.f3.params[j]? = some t → args[j]? = some v → Value.okWide Tryd.prog W .any base t v := hval0
  have hW' := hW
  obtain ⟨p, q, hA0, hV, rfl, hfz, hnd⟩ := hW
  have hA : DataW.TrodAll enc Tryd.prog W 0 (fun _ => true) true Tryd.f3.params.toList args.toList ds p := hA0
  rw [Tryd.params3] at hA hval hsz
  obtain ⟨v0, vs0, d0, ds0, p0, q0, hargs, rfl, rfl, h0, r0⟩ := trodAll_cons hA
  obtain ⟨rfl, rfl, rfl⟩ := trodAll_nil r0
  obtain rfl : args = #[v0] := by cases args; simp_all
  obtain ⟨rfl, rfl⟩ := trodVars_none hV
  have k0 := h0
  have lt0 : ∀ x ∈ p0, x.block < W.heap.size := by obtain ⟨m, hm⟩ := k0; exact DataW.trod_lt m _ _ _ hm
  have hw0 : ∀ n ∈ d0.weights Tryd.prog 24, n ≤ reachBytes := fun n hn => of_decide_eq_true (List.all_eq_true.1 hsz n (DataW.weights_mem_each (j := 0) rfl rfl n hn))
  obtain ⟨u, y, n, rfl, rfl, hy⟩ := open_struct1 Tryd.underlying24 (by kernel_rfl) rfl (by kernel_rfl) (hval 0 24 v0 rfl rfl) h0
  obtain ⟨l, v, hv, hrep, hl3, hl2⟩ := open_strs16 Tryd.underlying22 Tryd.underlying9 (by kernel_rfl) (by kernel_rfl) hy (fun n hn => hw0 n (by
    simp only [DataW.weights, Tryd.underlying24]
    simp only [DataW.weightsEach, List.map]
    exact List.mem_append_left _ hn))
  cases hv
  clear hA0 hval0 hsz0 hsz
  have hR : reachBytes = 140737488351232 := rfl
  have hl1 : l.length ≤ reachBytes := by omega
  refine (law_calls Cx.utfAll_ok W (tabs_of hL) (ags := [.agg [.lt .str l]]) (.cons (.agg _ _ (.cons hrep .nil)) .nil) (fun K hK => ⟨⟨hl1, hl2⟩, hK⟩)).mono fun e W' ⟨he, bel⟩ => ?_
  subst he
  exact ⟨_, rfl, _, _, _, [], _, [], hW', trodAll_mk1 (shut_bool Tryd.underlying4 _), trodAll_mk1 (Below.trod Tryd.laidOut (by kernel_rfl) (of_decide_eq_true (by kernel_rfl)) k0 bel lt0), rfl, bel.frame _, fun h => by cases h⟩
theorem utfAll_holds : Rows.UtfAllSaid :=
  OpenClaim.holds_of_wide 3 Tryd.f3 rfl rfl rfl rfl rfl rfl rfl ⟨rfl, rfl, rfl, rfl, rfl⟩ rfl rfl rfl rfl rfl (by kernel_rfl) Tryd.func3 (by kernel_rfl)
    (of_decide_eq_true (by kernel_rfl)) (by unfold Func.isWrapper; first | (rw [if_pos (by decide +kernel)]; kernel_rfl) | (rw [if_neg (by decide +kernel)]; exact ⟨rfl, rfl⟩))
    (fun os started H enc _ => utfAll_lifted os started H enc)
theorem utfSplits_lifted (os : Os) (started : os.Started) (H : Type) (enc : TypeId × Value → H) :
    ReturnsInHanded {} Tryd.checked os 4 .any (fun w args => (Rows.utfSplitsSpec.pre enc Tryd.prog Tryd.f4 [] false w args ∧ laidMetH Tryd.prog lds w) ∧ sizedMet enc Tryd.prog Tryd.f4 (OpenSpec.ofChange Rows.utfSplitsSpec) false w args)
      (Rows.utfSplitsSpec.post enc Tryd.prog Tryd.f4 false true false false) := by
  refine returnsInHanded_of_change_and (C := Tryd.checked) (X := fun w _ => laidMetH Tryd.prog lds w) (fun _ _ _ hh h => h.of_heap hh) Tryd.own started (by kernel_rfl) Tryd.func4
    (ChangeSpec.witness_at (enc := enc) (C := Tryd.checked) (os := os) (X := fun w _ => laidMetH Tryd.prog lds w) false (laidWorld os) #[.agg #[.slice none 0 0]] 8 rfl (by kernel_rfl) (by kernel_rfl) (by kernel_rfl) (by kernel_rfl) (by kernel_rfl) (laidWorld_met os _)) ?_
  intro W base args ds gs before hval0 hW _ hsz0 hL _
  have hsz : (DataW.weightsEach Tryd.prog (Tryd.f4.params.toList ++ Rows.utfSplitsSpec.plain.varTypes Tryd.prog) (ds ++ gs)).all (· ≤ reachBytes) = true := hsz0
  have hval : ∀ (j : Nat) t v, Tryd.f4.params[j]? = some t → args[j]? = some v → Value.okWide Tryd.prog W .any base t v := hval0
  have hW' := hW
  obtain ⟨p, q, hA0, hV, rfl, hfz, hnd⟩ := hW
  have hA : DataW.TrodAll enc Tryd.prog W 0 (fun _ => true) true Tryd.f4.params.toList args.toList ds p := hA0
  rw [Tryd.params4] at hA hval hsz
  obtain ⟨v0, vs0, d0, ds0, p0, q0, hargs, rfl, rfl, h0, r0⟩ := trodAll_cons hA
  obtain ⟨rfl, rfl, rfl⟩ := trodAll_nil r0
  obtain rfl : args = #[v0] := by cases args; simp_all
  obtain ⟨rfl, rfl⟩ := trodVars_none hV
  have k0 := h0
  have lt0 : ∀ x ∈ p0, x.block < W.heap.size := by obtain ⟨m, hm⟩ := k0; exact DataW.trod_lt m _ _ _ hm
  have hw0 : ∀ n ∈ d0.weights Tryd.prog 24, n ≤ reachBytes := fun n hn => of_decide_eq_true (List.all_eq_true.1 hsz n (DataW.weights_mem_each (j := 0) rfl rfl n hn))
  obtain ⟨u, y, n, rfl, rfl, hy⟩ := open_struct1 Tryd.underlying24 (by kernel_rfl) rfl (by kernel_rfl) (hval 0 24 v0 rfl rfl) h0
  obtain ⟨l, v, hv, hrep, hl3, hl2⟩ := open_strs16 Tryd.underlying22 Tryd.underlying9 (by kernel_rfl) (by kernel_rfl) hy (fun n hn => hw0 n (by
    simp only [DataW.weights, Tryd.underlying24]
    simp only [DataW.weightsEach, List.map]
    exact List.mem_append_left _ hn))
  cases hv
  clear hA0 hval0 hsz0 hsz
  have hR : reachBytes = 140737488351232 := rfl
  have hl1 : l.length ≤ reachBytes := by omega
  refine (law_calls Cx.usplits_ok W (tabs_of hL) (ags := [.agg [.lt .str l]]) (.cons (.agg _ _ (.cons hrep .nil)) .nil) (fun K hK => ⟨⟨hl1, hl2⟩, hK⟩)).mono fun e W' ⟨he, bel⟩ => ?_
  subst he
  exact ⟨_, rfl, _, _, _, [], _, [], hW', trodAll_mk1 (shut_bool Tryd.underlying4 _), trodAll_mk1 (Below.trod Tryd.laidOut (by kernel_rfl) (of_decide_eq_true (by kernel_rfl)) k0 bel lt0), rfl, bel.frame _, fun h => by cases h⟩
theorem utfSplits_holds : Rows.UtfSplitsSaid :=
  OpenClaim.holds_of_wide 4 Tryd.f4 rfl rfl rfl rfl rfl rfl rfl ⟨rfl, rfl, rfl, rfl, rfl⟩ rfl rfl rfl rfl rfl (by kernel_rfl) Tryd.func4 (by kernel_rfl)
    (of_decide_eq_true (by kernel_rfl)) (by unfold Func.isWrapper; first | (rw [if_pos (by decide +kernel)]; kernel_rfl) | (rw [if_neg (by decide +kernel)]; exact ⟨rfl, rfl⟩))
    (fun os started H enc _ => utfSplits_lifted os started H enc)
theorem utfBytes_lifted (os : Os) (started : os.Started) (H : Type) (enc : TypeId × Value → H) :
    ReturnsInHanded {} Tryd.checked os 5 .any (fun w args => (Rows.utfBytesSpec.pre enc Tryd.prog Tryd.f5 [] false w args ∧ laidMetH Tryd.prog lds w) ∧ sizedMet enc Tryd.prog Tryd.f5 (OpenSpec.ofChange Rows.utfBytesSpec) false w args)
      (Rows.utfBytesSpec.post enc Tryd.prog Tryd.f5 false true false false) := by
  refine returnsInHanded_of_change_and (C := Tryd.checked) (X := fun w _ => laidMetH Tryd.prog lds w) (fun _ _ _ hh h => h.of_heap hh) Tryd.own started (by kernel_rfl) Tryd.func5
    (ChangeSpec.witness_at (enc := enc) (C := Tryd.checked) (os := os) (X := fun w _ => laidMetH Tryd.prog lds w) false (laidWorld os) #[.agg #[.slice none 0 0]] 8 rfl (by kernel_rfl) (by kernel_rfl) (by kernel_rfl) (by kernel_rfl) (by kernel_rfl) (laidWorld_met os _)) ?_
  intro W base args ds gs before hval0 hW _ hsz0 hL _
  have hsz : (DataW.weightsEach Tryd.prog (Tryd.f5.params.toList ++ Rows.utfBytesSpec.plain.varTypes Tryd.prog) (ds ++ gs)).all (· ≤ reachBytes) = true := hsz0
  have hval : ∀ (j : Nat) t v, Tryd.f5.params[j]? = some t → args[j]? = some v → Value.okWide Tryd.prog W .any base t v := hval0
  have hW' := hW
  obtain ⟨p, q, hA0, hV, rfl, hfz, hnd⟩ := hW
  have hA : DataW.TrodAll enc Tryd.prog W 0 (fun _ => true) true Tryd.f5.params.toList args.toList ds p := hA0
  rw [Tryd.params5] at hA hval hsz
  obtain ⟨v0, vs0, d0, ds0, p0, q0, hargs, rfl, rfl, h0, r0⟩ := trodAll_cons hA
  obtain ⟨rfl, rfl, rfl⟩ := trodAll_nil r0
  obtain rfl : args = #[v0] := by cases args; simp_all
  obtain ⟨rfl, rfl⟩ := trodVars_none hV
  have k0 := h0
  have lt0 : ∀ x ∈ p0, x.block < W.heap.size := by obtain ⟨m, hm⟩ := k0; exact DataW.trod_lt m _ _ _ hm
  have hw0 : ∀ n ∈ d0.weights Tryd.prog 24, n ≤ reachBytes := fun n hn => of_decide_eq_true (List.all_eq_true.1 hsz n (DataW.weights_mem_each (j := 0) rfl rfl n hn))
  obtain ⟨u, y, n, rfl, rfl, hy⟩ := open_struct1 Tryd.underlying24 (by kernel_rfl) rfl (by kernel_rfl) (hval 0 24 v0 rfl rfl) h0
  obtain ⟨l, v, hv, hrep, hl3, hl2⟩ := open_strs16 Tryd.underlying22 Tryd.underlying9 (by kernel_rfl) (by kernel_rfl) hy (fun n hn => hw0 n (by
    simp only [DataW.weights, Tryd.underlying24]
    simp only [DataW.weightsEach, List.map]
    exact List.mem_append_left _ hn))
  cases hv
  clear hA0 hval0 hsz0 hsz
  have hR : reachBytes = 140737488351232 := rfl
  have hl1 : l.length ≤ reachBytes := by omega
  refine (law_calls Cx.ubytes_ok W (tabs_of hL) (ags := [.agg [.lt .str l]]) (.cons (.agg _ _ (.cons hrep .nil)) .nil) (fun K hK => ⟨⟨by omega, hl2⟩, hK⟩)).mono fun e W' ⟨he, bel⟩ => ?_
  subst he
  exact ⟨_, rfl, _, _, _, [], _, [], hW', trodAll_mk1 (shut_bool Tryd.underlying4 _), trodAll_mk1 (Below.trod Tryd.laidOut (by kernel_rfl) (of_decide_eq_true (by kernel_rfl)) k0 bel lt0), rfl, bel.frame _, fun h => by cases h⟩
theorem utfBytes_holds : Rows.UtfBytesSaid :=
  OpenClaim.holds_of_wide 5 Tryd.f5 rfl rfl rfl rfl rfl rfl rfl ⟨rfl, rfl, rfl, rfl, rfl⟩ rfl rfl rfl rfl rfl (by kernel_rfl) Tryd.func5 (by kernel_rfl)
    (of_decide_eq_true (by kernel_rfl)) (by unfold Func.isWrapper; first | (rw [if_pos (by decide +kernel)]; kernel_rfl) | (rw [if_neg (by decide +kernel)]; exact ⟨rfl, rfl⟩))
    (fun os started H enc _ => utfBytes_lifted os started H enc)
end Go.Proofs.YtcdpapgkgiifjaaDoor
end
section
namespace Go.Proofs.YtcdpapgkgiifjaaDoor
open Go
theorem utfAll_card : Rows.UtfAllCardSaid :=
  Claim7.holds_tied_plain_at .later [] [.data, .pinned] true (true, "5ab81598d06fbbf33d612bfdde636ec19793534bc8072eba351fc57f91ed825a") true
    utfAll_holds (fun _ h => by cases h) (by kernel_rfl) (fun _ h => by cases h) utfAll_row_tie rfl ⟨rfl, rfl⟩ (by kernel_rfl) rfl
    (fun f fn hf hfn => by
      obtain rfl : f = 3 := Option.some.inj ((show Tryd.prog.funcNamed "beacon/beaconlaw1.UtfAll" = some 3 by kernel_rfl).symm.trans hf) |>.symm
      obtain rfl : fn = Tryd.f3 := (Option.some.inj (Tryd.func3.symm.trans hfn)).symm
      exact ⟨by kernel_rfl, fun j t ht => by
        rw [Tryd.params3] at ht
        have h3 : t = 24 := by
          rcases j with _ | j
          · simpa using ht.symm
          · simp at ht
        subst h3
        exact (show Tryd.prog.wantsStandIn 24 = false by kernel_rfl)⟩)
    (by kernel_rfl)
theorem utfSplits_card : Rows.UtfSplitsCardSaid :=
  Claim7.holds_tied_plain_at .later [] [.data, .pinned] true (true, "5ab81598d06fbbf33d612bfdde636ec19793534bc8072eba351fc57f91ed825a") true
    utfSplits_holds (fun _ h => by cases h) (by kernel_rfl) (fun _ h => by cases h) utfSplits_row_tie rfl ⟨rfl, rfl⟩ (by kernel_rfl) rfl
    (fun f fn hf hfn => by
      obtain rfl : f = 4 := Option.some.inj ((show Tryd.prog.funcNamed "beacon/beaconlaw1.UtfSplits" = some 4 by kernel_rfl).symm.trans hf) |>.symm
      obtain rfl : fn = Tryd.f4 := (Option.some.inj (Tryd.func4.symm.trans hfn)).symm
      exact ⟨by kernel_rfl, fun j t ht => by
        rw [Tryd.params4] at ht
        have h3 : t = 24 := by
          rcases j with _ | j
          · simpa using ht.symm
          · simp at ht
        subst h3
        exact (show Tryd.prog.wantsStandIn 24 = false by kernel_rfl)⟩)
    (by kernel_rfl)
theorem utfBytes_card : Rows.UtfBytesCardSaid :=
  Claim7.holds_tied_plain_at .later [] [.data, .pinned] true (true, "5ab81598d06fbbf33d612bfdde636ec19793534bc8072eba351fc57f91ed825a") true
    utfBytes_holds (fun _ h => by cases h) (by kernel_rfl) (fun _ h => by cases h) utfBytes_row_tie rfl ⟨rfl, rfl⟩ (by kernel_rfl) rfl
    (fun f fn hf hfn => by
      obtain rfl : f = 5 := Option.some.inj ((show Tryd.prog.funcNamed "beacon/beaconlaw1.UtfBytes" = some 5 by kernel_rfl).symm.trans hf) |>.symm
      obtain rfl : fn = Tryd.f5 := (Option.some.inj (Tryd.func5.symm.trans hfn)).symm
      exact ⟨by kernel_rfl, fun j t ht => by
        rw [Tryd.params5] at ht
        have h3 : t = 24 := by
          rcases j with _ | j
          · simpa using ht.symm
          · simp at ht
        subst h3
        exact (show Tryd.prog.wantsStandIn 24 = false by kernel_rfl)⟩)
    (by kernel_rfl)
end Go.Proofs.YtcdpapgkgiifjaaDoor
end
