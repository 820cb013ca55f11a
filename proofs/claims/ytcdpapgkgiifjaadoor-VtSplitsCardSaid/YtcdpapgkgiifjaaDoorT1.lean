/- A law is proved out of the functions' contracts. Conditions: none beyond those of the given statement. -/
import Derived.Shelf.LaysM
import Derived.Shelf.Strconv.Clone
import Derived.Shelf.Unicode.Decode
import Derived.Shelf.Unicode.DecodeSlow
import Derived.Shelf.Unicode.DecodeAny
import Derived.Ground.Names2Prog
import Derived.Shelf.Slices.Clone
import Derived.Ground.SlgnProg
import Derived.Shelf.SlicesE.Clone
import Derived.Test.YtcdpapgkgiifjaaDoorProg
import Derived.Test.YtcdpapgkgiifjaaDoorSx4
set_option linter.unusedVariables false
set_option linter.unusedSimpArgs false
section
/-
  DERIVED: THE SHELF's CONTRACTS AT THIS DUMP, IN PLAIN WORDS (tools/lay-plain.mjs out of 'TrydShelf.lean', which tools/lay-shelf.mjs wrote): THE SAME DECLARATIONS UNDER THE SAME NAMES: 'import', 'namespace', 'open', 'def', 'theorem' AND NOTHING ELSE: no command of the shelf's: FOR A HAND-IN. Each laying: the table of numbers ('.._ren') and one theorem, a field a fact of the dump's own or the kernel's comparison; each contract: ONE APPLICATION.
-/
namespace Go.Proofs
open Go.Shelf
def Tryd.laysM316_ren : Go.Shelf.Ren := ⟨fun | 316 => 65 | n => n, fun | 9 => 9 | 3 => 3 | 4 => 4 | 37 => 49 | 0 => 0 | 127 => 103 | 5 => 5 | n => n, fun | n => n⟩
theorem Tryd.laysM316 : Go.Proofs.LaysM.n316 Tryd.prog Tryd.laysM316_ren := {
  mixed := by kernel_rfl
  f316 := Tryd.func65.trans (congrArg some (by kernel_rfl))
  t0 := Tryd.underlying0
  a0 := Tryd.isAgg0
  z0 := Tryd.sizeOf0
  v0 := Tryd.zeroValue0
  t3 := Tryd.underlying3
  a3 := Tryd.isAgg3
  z3 := Tryd.sizeOf3
  v3 := Tryd.zeroValue3
  t4 := Tryd.underlying4
  a4 := Tryd.isAgg4
  z4 := Tryd.sizeOf4
  v4 := Tryd.zeroValue4
  t9 := Tryd.underlying9
  a9 := Tryd.isAgg9
  z9 := Tryd.sizeOf9
  v9 := Tryd.zeroValue9
  t37 := Tryd.underlying49
  a37 := Tryd.isAgg49
  z37 := Tryd.sizeOf49
  v37 := Tryd.zeroValue49
  t127 := Tryd.underlying103
  a127 := Tryd.isAgg103
  z127 := Tryd.sizeOf103
  v127 := Tryd.zeroValue103
  t5 := Tryd.underlying5
  a5 := Tryd.isAgg5
  z5 := Tryd.sizeOf5
  v5 := Tryd.zeroValue5
  i0 := by kernel_rfl
  i3 := by kernel_rfl
  i4 := by kernel_rfl
  i5 := by kernel_rfl
  i9 := by kernel_rfl
  i37 := by kernel_rfl
  i127 := by kernel_rfl }
open Go.RowKit in
/-- internal/stringslite.Clone (what strings.Clone calls): "Clone returns a fresh copy of s.": THE SAME BYTES. Of what was there nothing has turned (a new row is laid, and frozen, where s is not empty). (LAID: no walk: one application.) -/
theorem Tryd.stringslite_Clone (s : ByteArray) (w : World) (hlim : s.size ≤ 281474976710656) :
    Calls Tryd.prog 65 #[.string s] w fun e w' => e = .returned (.string s) ∧ Below w.heap.size w w' := Any.stringslite_Clone Tryd.laysM316 s w hlim
def Tryd.lays197_ren : Go.Shelf.Ren := ⟨fun | 197 => 50 | 260 => 72 | n => n, fun | 9 => 9 | 21 => 21 | 3 => 3 | 4 => 4 | 5 => 5 | 105 => 88 | 119 => 104 | 0 => 0 | 46 => 66 | 139 => 107 | 138 => 106 | n => n, fun | 3 => 0 | 4 => 1 | n => n⟩
theorem Tryd.lays197 : Go.Proofs.Lays.n197 Tryd.prog Tryd.lays197_ren := {
  mixed := by kernel_rfl
  f197 := Tryd.func50.trans (congrArg some (by kernel_rfl))
  f260 := Tryd.func72.trans (congrArg some (by kernel_rfl))
  t0 := Tryd.underlying0
  a0 := Tryd.isAgg0
  z0 := Tryd.sizeOf0
  v0 := Tryd.zeroValue0
  t3 := Tryd.underlying3
  a3 := Tryd.isAgg3
  z3 := Tryd.sizeOf3
  v3 := Tryd.zeroValue3
  t4 := Tryd.underlying4
  a4 := Tryd.isAgg4
  z4 := Tryd.sizeOf4
  v4 := Tryd.zeroValue4
  t5 := Tryd.underlying5
  a5 := Tryd.isAgg5
  z5 := Tryd.sizeOf5
  v5 := Tryd.zeroValue5
  t9 := Tryd.underlying9
  a9 := Tryd.isAgg9
  z9 := Tryd.sizeOf9
  v9 := Tryd.zeroValue9
  t21 := Tryd.underlying21
  a21 := Tryd.isAgg21
  z21 := Tryd.sizeOf21
  v21 := Tryd.zeroValue21
  t46 := Tryd.underlying66
  a46 := Tryd.isAgg66
  z46 := Tryd.sizeOf66
  v46 := Tryd.zeroValue66
  t105 := Tryd.underlying88
  a105 := Tryd.isAgg88
  z105 := Tryd.sizeOf88
  v105 := Tryd.zeroValue88
  t119 := Tryd.underlying104
  a119 := Tryd.isAgg104
  z119 := Tryd.sizeOf104
  t138 := Tryd.underlying106
  a138 := Tryd.isAgg106
  z138 := Tryd.sizeOf106
  v138 := Tryd.zeroValue106
  t139 := Tryd.underlying107
  a139 := Tryd.isAgg107
  z139 := Tryd.sizeOf107
  v139 := Tryd.zeroValue107
  g3 := by kernel_rfl
  g4 := by kernel_rfl }
open Go.RowKit Go.Lib in
/-- unicode/utf8.DecodeRuneInString: "DecodeRuneInString is like DecodeRune but its input is a string.": ("DecodeRune unpacks the first UTF-8 encoding in p and returns the rune and its width in bytes."): WHERE s BEGINS WITH AN ASCII BYTE x: (x, 1). (LAID: no walk: one application.) -/
theorem Tryd.utf8_DecodeRuneInString_ascii (s : ByteArray) (x : UInt8) (w : World) (h0 : s.data.toList[0]? = some x) (hx : x.toNat < 128) :
    Calls Tryd.prog 50 #[.string s] w fun e w' => e = .returned (.tuple #[.int .i32 x.toNat, .int .i64 1]) ∧ w' = w := Any.utf8_DecodeRuneInString_ascii Tryd.lays197 s x w h0 hx
def Tryd.lays260_ren : Go.Shelf.Ren := ⟨fun | 260 => 72 | n => n, fun | 9 => 9 | 21 => 21 | 3 => 3 | 4 => 4 | 5 => 5 | 119 => 104 | 0 => 0 | 46 => 66 | 139 => 107 | 138 => 106 | n => n, fun | 3 => 0 | 4 => 1 | n => n⟩
theorem Tryd.lays260 : Go.Proofs.Lays.n260 Tryd.prog Tryd.lays260_ren := {
  mixed := by kernel_rfl
  f260 := Tryd.func72.trans (congrArg some (by kernel_rfl))
  t0 := Tryd.underlying0
  a0 := Tryd.isAgg0
  z0 := Tryd.sizeOf0
  v0 := Tryd.zeroValue0
  t3 := Tryd.underlying3
  a3 := Tryd.isAgg3
  z3 := Tryd.sizeOf3
  v3 := Tryd.zeroValue3
  t4 := Tryd.underlying4
  a4 := Tryd.isAgg4
  z4 := Tryd.sizeOf4
  v4 := Tryd.zeroValue4
  t5 := Tryd.underlying5
  a5 := Tryd.isAgg5
  z5 := Tryd.sizeOf5
  v5 := Tryd.zeroValue5
  t9 := Tryd.underlying9
  a9 := Tryd.isAgg9
  z9 := Tryd.sizeOf9
  v9 := Tryd.zeroValue9
  t21 := Tryd.underlying21
  a21 := Tryd.isAgg21
  z21 := Tryd.sizeOf21
  v21 := Tryd.zeroValue21
  t46 := Tryd.underlying66
  a46 := Tryd.isAgg66
  z46 := Tryd.sizeOf66
  v46 := Tryd.zeroValue66
  t119 := Tryd.underlying104
  a119 := Tryd.isAgg104
  z119 := Tryd.sizeOf104
  t138 := Tryd.underlying106
  a138 := Tryd.isAgg106
  z138 := Tryd.sizeOf106
  v138 := Tryd.zeroValue106
  t139 := Tryd.underlying107
  a139 := Tryd.isAgg107
  z139 := Tryd.sizeOf107
  v139 := Tryd.zeroValue107
  g3 := by kernel_rfl
  g4 := by kernel_rfl }
open Go.RowKit Go.Lib in
theorem Tryd.utf8_decodeRuneInStringSlow (s : ByteArray) (w : World) (hT : Lib.Utf8Tabs 0 1 w) :
    Calls Tryd.prog 72 #[.string s] w fun e w' => e = .returned (.tuple #[.int .i32 (Lib.decodeGo s).1, .int .i64 (Lib.decodeGo s).2]) ∧ Below w.heap.size w w' := Any.utf8_decodeRuneInStringSlow Tryd.lays260 s w hT
open Go.RowKit Go.Lib in
/-- **unicode/utf8.DecodeRuneInString AT EVERY STRING.** (LAID: no walk: one application.) -/
theorem Tryd.utf8_DecodeRuneInString (s : ByteArray) (w : World) (hT : Lib.Utf8Tabs 0 1 w) :
    Calls Tryd.prog 50 #[.string s] w fun e w' => e = .returned (.tuple #[.int .i32 (Lib.decodeGo s).1, .int .i64 (Lib.decodeGo s).2]) ∧ Below w.heap.size w w' := Any.utf8_DecodeRuneInString Tryd.lays197 s w hT
def Tryd.laysNm215_ren : Go.Shelf.Ren := ⟨fun | 15 => 43 | n => n, fun | 22 => 26 | 3 => 3 | 4 => 4 | n => n, fun | n => n⟩
theorem Tryd.laysNm215 : Go.Proofs.Lays2.n15 Tryd.prog Tryd.laysNm215_ren := {
  mixed := by kernel_rfl
  f15 := Tryd.func43.trans (congrArg some (by kernel_rfl))
  t3 := Tryd.underlying3
  a3 := Tryd.isAgg3
  z3 := Tryd.sizeOf3
  v3 := Tryd.zeroValue3
  t4 := Tryd.underlying4
  a4 := Tryd.isAgg4
  z4 := Tryd.sizeOf4
  v4 := Tryd.zeroValue4
  t22 := Tryd.underlying26
  a22 := Tryd.isAgg26
  z22 := Tryd.sizeOf26
  v22 := Tryd.zeroValue26
  i3 := by kernel_rfl }
open Go.RowKit Go.Lib in
/-- slices.Clone at []int: "Clone returns a copy of the slice. The elements are copied using assignment, so this is a shallow clone. The result may have additional unused capacity. The result preserves the nilness of s.": OF A SLICE THAT IS NOT nil IT RETURNS A SLICE THAT IS NOT nil, OF THE SAME ELEMENTS, IN MEMORY OF THE CALL's OWN: in the how-to's words (6f): 'w'.ownsRow B e 1 v' n cells': v' begins at the head of a row among the blocks from B on (B: the heap's size at the call), not frozen, whose first cells are the elements · 'Below B w w'': below B all is as it was. The capacity is whatever the run-time gives. 'zs': what the cells behind the slice's address hold; 'zs.take n': its elements. (LAID: no walk: one application.) -/
theorem Tryd.slices_Clone_int (b off n c : Nat) (zs : List Int) (w : World) (hz : n ≤ zs.length) (hbig : n * 8 ≤ 140737488355328) (hc : ∀ j, j < zs.length → w.cell? ⟨b, off + j, none⟩ = some (.int .i64 (zs.getD j 0))) :
    Calls Tryd.prog 43 #[.slice (some ⟨b, off, none⟩) n c] w fun e w' => ∃ v', e = .returned v' ∧ w'.ownsRow w.heap.size 3 1 v' n ((zs.take n).map (Value.int .i64)) ∧ v' ≠ .slice none 0 0 ∧ Below w.heap.size w w' := Any.slices_Clone_int Tryd.laysNm215 b off n c zs w hz hbig hc
open Go.RowKit Go.Lib in
/-- The same at nil: nil comes back; the world is as it was. (LAID: no walk: one application.) -/
theorem Tryd.slices_Clone_int_nil (n c : Nat) (w : World) :
    Calls Tryd.prog 43 #[.slice none n c] w fun e w' => e = .returned (.slice none 0 0) ∧ w' = w := Any.slices_Clone_int_nil Tryd.laysNm215 n c w
open Go.RowKit Go.Lib in
/-- The same at a slice of length 0 that is not nil, WHATEVER ITS ADDRESS (no cell is asked for): a slice that is not nil and owns nothing comes back. (LAID: no walk: one application.) -/
theorem Tryd.slices_Clone_int_zero (a : Addr) (c : Nat) (w : World) :
    Calls Tryd.prog 43 #[.slice (some a) 0 c] w fun e w' => ∃ v', e = .returned v' ∧ w'.ownsRow w.heap.size 3 1 v' 0 [] ∧ v' ≠ .slice none 0 0 ∧ Below w.heap.size w w' := Any.slices_Clone_int_zero Tryd.laysNm215 a c w
def Tryd.laysSlE041_f43_ren : Go.Shelf.Ren := ⟨fun | 41 => 43 | n => n, fun | 22 => 26 | 23 => 3 | 4 => 4 | n => n, fun | n => n⟩
theorem Tryd.laysSlE041_f43 : Go.Proofs.SlLaysE0.n41 Tryd.prog Tryd.laysSlE041_f43_ren := {
  mixed := by kernel_rfl
  f41 := ⟨Tryd.f43.name, by decide, Tryd.func43.trans (congrArg some (by kernel_rfl))⟩
  t4 := Tryd.underlying4
  a4 := Tryd.isAgg4
  z4 := Tryd.sizeOf4
  v4 := Tryd.zeroValue4
  t22 := Tryd.underlying26
  a22 := Tryd.isAgg26
  z22 := Tryd.sizeOf26
  v22 := Tryd.zeroValue26 }
open Go.RowKit Go.Lib in
/-- slices.Clone: "Clone returns a copy of the slice. The elements are copied using assignment, so this is a shallow clone. The result may have additional unused capacity. The result preserves the nilness of s.": OF A SLICE THAT IS NOT nil IT RETURNS A SLICE THAT IS NOT nil, OF THE SAME CELLS, IN MEMORY OF THE CALL's OWN ('ownsRow': the how-to's 6f); below the heap's size at the call all is as it was. (LAID AT THE INSTANCE 'slices.Clone[[]int,int]': no walk: one application.) -/
theorem Tryd.slices_Clone (i0 : TypeInfo) (z : Value) (size bytes : Nat) (hi : Tryd.prog.info? 3 = some i0) (hz0 : i0.zero = some z) (hz1 : i0.size = size) (hz2 : i0.bytes = bytes) (hzs : z.cells.size = size) (hsz : 0 < size) (z23 : ∀ w, (Go.sizeOf 3).run Tryd.prog w = .ok size w) (b off n c : Nat) (news : List Value) (w : World) (hl : news.length = n * size) (hn : n ≤ maxLen) (hbig : n * bytes ≤ 140737488355328) (hc : ∀ j u, news[j]? = some u → w.cell? ⟨b, off + j, none⟩ = some u) (h1 : ∀ u ∈ news, u.oneCell' = true) :
    Calls Tryd.prog 43 #[.slice (some ⟨b, off, none⟩) n c] w fun e w' => ∃ v', e = .returned v' ∧ w'.ownsRow w.heap.size 3 size v' n news ∧ v' ≠ .slice none 0 0 ∧ Below w.heap.size w w' := AnyE.slices_Clone Tryd.laysSlE041_f43 i0 z size bytes hi hz0 hz1 hz2 hzs hsz z23 b off n c news w hl hn hbig hc h1
open Go.RowKit Go.Lib in
/-- The same at nil: nil comes back; the world is as it was; nothing is asked of the element's type. (LAID AT THE INSTANCE 'slices.Clone[[]int,int]': no walk: one application.) -/
theorem Tryd.slices_Clone_nil (n c : Nat) (w : World) :
    Calls Tryd.prog 43 #[.slice none n c] w fun e w' => e = .returned (.slice none 0 0) ∧ w' = w := AnyE.slices_Clone_nil Tryd.laysSlE041_f43 n c w
end Go.Proofs
end
section
namespace Go.Cx
open Go Go.Sx Go.Proofs
set_option maxRecDepth 100000
set_option maxHeartbeats 0
/-! what the functions tell -/
def needS (b : Int) : Int := if 194 ≤ b ∧ b ≤ 223 then 2 else if 224 ≤ b ∧ b ≤ 239 then 3 else if 240 ≤ b ∧ b ≤ 244 then 4 else 0
def secondS (f b : Int) : Bool := decide ((if f = 224 then (160 : Int) else if f = 240 then 144 else 128) ≤ b ∧ b ≤ (if f = 237 then (159 : Int) else if f = 244 then 143 else 191))
def partS (s : ByteArray) : Bool := decide (s.size ≠ 0 ∧ (s.size : Int) < needS (bt s 0) ∧ (1 < s.size → secondS (bt s 0) (bt s 1) = true) ∧ (2 < s.size → 128 ≤ bt s 2 ∧ bt s 2 ≤ 191))
def beginS (b : Int) : List Int × ByteArray :=
  if b < 128 then ([b], ⟨#[]⟩) else if partS (strBytes [b]) = true then ([], strBytes [b]) else ([65533], ⟨#[]⟩)
def stepS (part : ByteArray) (b : Int) : List Int × ByteArray :=
  if part = ⟨#[]⟩ then beginS b
  else if partS (part ++ strBytes [b]) = true then ([], part ++ strBytes [b])
  else if ((Lib.decodeGo (part ++ strBytes [b])).2 : Int) = (part ++ strBytes [b]).size then ([((Lib.decodeGo (part ++ strBytes [b])).1 : Int)], ⟨#[]⟩)
  else (65533 :: (beginS b).1, (beginS b).2)
def kdT : TypeId → Option Kd := fun t => match t with
  | 3 => some (.int .i64)
  | 5 => some (.int .u8)
  | 21 => some (.int .i32)
  | 9 => some .str
  | 4 => some .bool
  | 79 => some .ev
  | 47 => some .parse
  | 74 => some (.vev 100 95 76 102)
  | _ => none
noncomputable def ty0 : Ty := tyOf Tryd.prog kdT
def look (l : List (FuncId × Con)) : Cons := fun f => match l with
  | [] => none
  | (g, c) :: r => match Nat.beq g f with
    | true => some c
    | false => look r f
def mthT : Mth := fun t => match t with
  | 100 => some ("beacon/vt.told", 95)
  | 95 => some ("beacon/vt.told", 94)
  | 76 => some ("beacon/vt.told", 93)
  | 102 => some ("beacon/vt.told", 96)
  | _ => none
noncomputable def env (l : List (FuncId × Con)) : Env := ⟨ty0, look l, mthT⟩
theorem cons_nil : ConsOk Tryd.prog (look []) := fun f c h => by cases h
theorem cons_cons {l : List (FuncId × Con)} {g : FuncId} {c : Con} (h : ConsOk Tryd.prog (look l)) (hc : ConOk Tryd.prog g c) : ConsOk Tryd.prog (look ((g, c) :: l)) := by
  intro f d hd
  simp only [look] at hd
  split at hd
  · rename_i e; have e := beq_nat e; subst e; cases hd; exact hc
  · exact h f d hd
theorem mth_ok : MthOk Tryd.prog mthT := by
  intro T nm f h
  unfold mthT at h
  split at h <;> first | (cases h; exact mthRow_ok (by kernel_rfl)) | cases h
theorem env_ok {l : List (FuncId × Con)} (h : ConsOk Tryd.prog (look l)) : EnvOk Tryd.prog (env l) := ⟨tyOf_ok _, h, mth_ok⟩
theorem mixed : Tryd.prog.follows .mixedOrders = true := by kernel_rfl
abbrev ints (xs : List Int) : Blk := .arr (.int .i64) xs
def cfg0 : Cfg := ⟨[], fun _ => [], fun _ => none, fun _ => none, fun _ => none, none, false, true, fun _ => []⟩
def cfg1 : Cfg := ⟨[], fun _ => [], fun _ => none, fun _ => none, fun _ => none, none, true, true, fun _ => []⟩

def rtB : Lr := ⟨Bool, fun x => [.b x], fun _ => []⟩
def l0 : List (FuncId × Con) := []
def needCon : Con := ⟨[.v], fun ags M K => match ags, M with
  | [.val (.int .u8 b)], [] => ∀ r, r = needS b → K (.i r) []
  | _, _ => False⟩
def needCfg : Cfg := { cfg0 with jn := fun r => match r with | 1 => some 3 | 3 => some 10 | 5 => some 17 | _ => none }
theorem need_vc (b : Int) (K : AV → List Blk → Prop) : (evFn (env l0) Tryd.f37 needCfg [.int .u8 b] [] K) = (
  ∃ (c : Bool), ((decide ((194 : Int) ≤ b) = true → Same [] [] ∧ decide (b ≤ (223 : Int)) = c) ∧ (decide ((194 : Int) ≤ b) = false → Same [] [] ∧ false = c)) ∧ (c = true →
  K (AV.val (Value.int IntKind.i64 (2 : Int))) []) ∧ (c = false → ∃ (c : Bool), ((decide ((224 : Int) ≤ b) = true → Same [] [] ∧ decide (b ≤ (239 : Int)) = c) ∧ (decide
  ((224 : Int) ≤ b) = false → Same [] [] ∧ false = c)) ∧ (c = true → K (AV.val (Value.int IntKind.i64 (3 : Int))) []) ∧ (c = false → ∃ (c : Bool), ((decide ((240 : Int) ≤
  b) = true → Same [] [] ∧ decide (b ≤ (244 : Int)) = c) ∧ (decide ((240 : Int) ≤ b) = false → Same [] [] ∧ false = c)) ∧ (c = true → K (AV.val (Value.int IntKind.i64 (4 :
  Int))) []) ∧ (c = false → K (AV.val (Value.int IntKind.i64 (0 : Int))) [])))) := by kernel_rfl

theorem need_ok : ConOk Tryd.prog 37 needCon := fn_ok (env_ok cons_nil) mixed Tryd.func37 rfl needCon needCfg (by
  intro ags M K h
  unfold needCon at h
  simp only at h
  split at h
  · rename_i b
    show evFn (env l0) _ _ _ _ _
    rw [need_vc]
    refine ⟨decide (194 ≤ b ∧ b ≤ 223), by simp only [Same, decide_eq_true_eq, decide_eq_false_iff_not, true_and, and_true, decide_eq_decide, Bool.false_eq, Bool.true_eq, Bool.not_eq_true', Bool.not_eq_eq_eq_not, Bool.not_true, Bool.not_false, Bool.and_eq_true, Bool.or_eq_true, Bool.and_eq_false_iff, Bool.or_eq_false_iff]; omega, fun h1 => h _ ?_, fun h1 => ⟨decide (224 ≤ b ∧ b ≤ 239), by simp only [Same, decide_eq_true_eq, decide_eq_false_iff_not, true_and, and_true, decide_eq_decide, Bool.false_eq, Bool.true_eq, Bool.not_eq_true', Bool.not_eq_eq_eq_not, Bool.not_true, Bool.not_false, Bool.and_eq_true, Bool.or_eq_true, Bool.and_eq_false_iff, Bool.or_eq_false_iff]; omega, fun h2 => h _ ?_, fun h2 => ⟨decide (240 ≤ b ∧ b ≤ 244), by simp only [Same, decide_eq_true_eq, decide_eq_false_iff_not, true_and, and_true, decide_eq_decide, Bool.false_eq, Bool.true_eq, Bool.not_eq_true', Bool.not_eq_eq_eq_not, Bool.not_true, Bool.not_false, Bool.and_eq_true, Bool.or_eq_true, Bool.and_eq_false_iff, Bool.or_eq_false_iff]; omega, fun h3 => h _ ?_, fun h3 => h _ ?_⟩⟩⟩ <;> simp only [Same, decide_eq_true_eq, decide_eq_false_iff_not, true_and, and_true, decide_eq_decide, Bool.false_eq, Bool.true_eq, Bool.not_eq_true', Bool.not_eq_eq_eq_not, Bool.not_true, Bool.not_false, Bool.and_eq_true, Bool.or_eq_true, Bool.and_eq_false_iff, Bool.or_eq_false_iff] at * <;> simp only [needS] <;> (repeat' split) <;> omega
  · exact h.elim)
def l1 : List (FuncId × Con) := (37, needCon) :: l0
theorem l1_ok : ConsOk Tryd.prog (look l1) := cons_cons cons_nil need_ok

def secondCon : Con := ⟨[.v, .v], fun ags M K => match ags, M with
  | [.val (.int .u8 f), .val (.int .u8 b)], [] => ∀ r, r = secondS f b → K (.b r) []
  | _, _ => False⟩
def secondCfg : Cfg := { cfg0 with jn := fun r => match r with | 11 => some 4 | _ => none }
theorem second_vc (f : Int) (b : Int) (K : AV → List Blk → Prop) : (evFn (env l1) Tryd.f38 secondCfg [.int .u8 f, .int .u8 b] [] K) = (
  (decide (f = (224 : Int)) = true → ∃ (c : Bool), ((decide ((160 : Int) ≤ b) = true → Same [] [] ∧ decide (b ≤ (191 : Int)) = c) ∧ (decide ((160 : Int) ≤ b) = false → Same
  [] [] ∧ false = c)) ∧ K (AV.val (Value.bool c)) []) ∧ (decide (f = (224 : Int)) = false → (decide (f = (237 : Int)) = true → ∃ (c : Bool), ((decide ((128 : Int) ≤ b) =
  true → Same [] [] ∧ decide (b ≤ (159 : Int)) = c) ∧ (decide ((128 : Int) ≤ b) = false → Same [] [] ∧ false = c)) ∧ K (AV.val (Value.bool c)) []) ∧ (decide (f = (237 :
  Int)) = false → (decide (f = (240 : Int)) = true → ∃ (c : Bool), ((decide ((144 : Int) ≤ b) = true → Same [] [] ∧ decide (b ≤ (191 : Int)) = c) ∧ (decide ((144 : Int) ≤
  b) = false → Same [] [] ∧ false = c)) ∧ K (AV.val (Value.bool c)) []) ∧ (decide (f = (240 : Int)) = false → (decide (f = (244 : Int)) = true → ∃ (c : Bool), ((decide
  ((128 : Int) ≤ b) = true → Same [] [] ∧ decide (b ≤ (143 : Int)) = c) ∧ (decide ((128 : Int) ≤ b) = false → Same [] [] ∧ false = c)) ∧ K (AV.val (Value.bool c)) []) ∧
  (decide (f = (244 : Int)) = false → ∃ (c : Bool), ((decide ((128 : Int) ≤ b) = true → Same [] [] ∧ decide (b ≤ (191 : Int)) = c) ∧ (decide ((128 : Int) ≤ b) = false →
  Same [] [] ∧ false = c)) ∧ K (AV.val (Value.bool c)) []))))) := by kernel_rfl

theorem second_ok : ConOk Tryd.prog 38 secondCon := fn_ok (env_ok l1_ok) mixed Tryd.func38 rfl secondCon secondCfg (by
  intro ags M K h
  unfold secondCon at h
  simp only at h
  split at h
  · rename_i f b
    show evFn (env l1) _ _ _ _ _
    rw [second_vc]
    have key : ∀ lo hi : Int, secondS f b = decide (lo ≤ b ∧ b ≤ hi) → ∃ c, ((decide (lo ≤ b) = true → Same [] [] ∧ decide (b ≤ hi) = c) ∧ (decide (lo ≤ b) = false → Same [] [] ∧ false = c)) ∧ K (.val (.bool c)) [] := by
      intro lo hi e
      refine ⟨_, ?_, h _ e.symm⟩
      simp only [Same, decide_eq_true_eq, decide_eq_false_iff_not, true_and, and_true, decide_eq_decide, Bool.false_eq, Bool.true_eq, Bool.not_eq_true', Bool.not_eq_eq_eq_not, Bool.not_true, Bool.not_false, Bool.and_eq_true, Bool.or_eq_true, Bool.and_eq_false_iff, Bool.or_eq_false_iff]; omega
    refine ⟨fun h1 => key _ _ ?_, fun h1 => ⟨fun h2 => key _ _ ?_, fun h2 => ⟨fun h3 => key _ _ ?_, fun h3 => ⟨fun h4 => key _ _ ?_, fun h4 => key _ _ ?_⟩⟩⟩⟩ <;> simp only [Same, decide_eq_true_eq, decide_eq_false_iff_not, true_and, and_true, decide_eq_decide, Bool.false_eq, Bool.true_eq, Bool.not_eq_true', Bool.not_eq_eq_eq_not, Bool.not_true, Bool.not_false, Bool.and_eq_true, Bool.or_eq_true, Bool.and_eq_false_iff, Bool.or_eq_false_iff] at * <;> simp only [secondS, *] <;> simp <;> omega
  · exact h.elim)
def l2 : List (FuncId × Con) := (38, secondCon) :: l1
theorem l2_ok : ConsOk Tryd.prog (look l2) := cons_cons l1_ok second_ok

def partCon : Con := ⟨[.v], fun ags M K => match ags, M with
  | [.val (.string s)], [] => ∀ r, r = partS s → K (.b r) []
  | _, _ => False⟩
def partCfg : Cfg := { cfg0 with hd := fun r => match r with | 1 => [23] | _ => [], jn := fun r => match r with | 1 => some 25 | 3 => some 2 | _ => none }
theorem part_vc (s : ByteArray) (K : AV → List Blk → Prop) : (evFn (env l2) Tryd.f18 partCfg [.s s] [] K) = (
  ∃ (c : Bool), ((decide (s = ByteArray.mk #[]) = true → Same [] [] ∧ true = c) ∧ (decide (s = ByteArray.mk #[]) = false → ((0 : Int) ≤ (0 : Int) ∧ (0 : Int) < (↑s.size :
  Int)) ∧ ∀ (r : Int), r = needS (bt s 0) → (decide (r ≤ (↑s.size : Int)) = true → Same [] [] ∧ true = c) ∧ (decide (r ≤ (↑s.size : Int)) = false → (decide ((1 : Int) <
  (↑s.size : Int)) = true → ((0 : Int) ≤ (0 : Int) ∧ (0 : Int) < (↑s.size : Int)) ∧ ((0 : Int) ≤ (1 : Int) ∧ (1 : Int) < (↑s.size : Int)) ∧ ∀ (r : Bool), r = secondS (bt s
  0) (bt s 1) → Same [] [] ∧ (!r) = c) ∧ (decide ((1 : Int) < (↑s.size : Int)) = false → Same [] [] ∧ false = c)))) ∧ (c = true → K (AV.val (Value.bool false)) []) ∧ (c =
  false → ∃ (c : Bool), ((decide ((↑s.size : Int) < (3 : Int)) = true → Same [] [] ∧ true = c) ∧ (decide ((↑s.size : Int) < (3 : Int)) = false → ((0 : Int) ≤ (2 : Int) ∧ (2
  : Int) < (↑s.size : Int)) ∧ (decide ((128 : Int) ≤ bt s 2) = true → ((0 : Int) ≤ (2 : Int) ∧ (2 : Int) < (↑s.size : Int)) ∧ Same [] [] ∧ decide (bt s 2 ≤ (191 : Int)) =
  c) ∧ (decide ((128 : Int) ≤ bt s 2) = false → Same [] [] ∧ false = c))) ∧ K (AV.val (Value.bool c)) [])) := by kernel_rfl

theorem size_zero {s : ByteArray} : s = ⟨#[]⟩ ↔ s.size = 0 := by
  constructor
  · rintro rfl; rfl
  · intro h
    obtain ⟨⟨l⟩⟩ := s
    have : l.length = 0 := h
    rw [List.length_eq_zero_iff.1 this]
theorem part_ok : ConOk Tryd.prog 18 partCon := fn_ok (env_ok l2_ok) mixed Tryd.func18 rfl partCon partCfg (by
  intro ags M K h
  unfold partCon at h
  simp only at h
  split at h
  · rename_i s
    show evFn (env l2) _ _ _ _ _
    rw [part_vc]
    have h0 := @size_zero s
    refine ⟨decide (s.size = 0 ∨ needS (bt s 0) ≤ s.size ∨ (1 < s.size ∧ secondS (bt s 0) (bt s 1) = false)), ⟨fun h1 => ⟨rfl, ?_⟩, fun h1 => ⟨⟨by omega, ?_⟩, fun r hr => ⟨fun h2 => ⟨rfl, ?_⟩, fun h2 => ⟨fun h3 => ⟨⟨by omega, ?_⟩, ⟨by omega, ?_⟩, fun r2 hr2 => ⟨rfl, ?_⟩⟩, fun h3 => ⟨rfl, ?_⟩⟩⟩⟩⟩,
      fun h1 => h _ ?_, fun h1 => ⟨decide (s.size < 3 ∨ (128 ≤ bt s 2 ∧ bt s 2 ≤ 191)), ⟨fun h2 => ⟨rfl, ?_⟩, fun h2 => ⟨⟨by omega, ?_⟩, fun h3 => ⟨⟨by omega, ?_⟩, rfl, ?_⟩, fun h3 => ⟨rfl, ?_⟩⟩⟩, h _ ?_⟩⟩
    all_goals simp only [Int.toNat_zero, Int.toNat_one, show (2 : Int).toNat = 2 from rfl, Same, decide_eq_true_eq, decide_eq_false_iff_not, true_and, and_true, decide_eq_decide, Bool.false_eq, Bool.true_eq, Bool.not_eq_true', Bool.not_eq_eq_eq_not, Bool.not_true, Bool.not_false, Bool.and_eq_true, Bool.or_eq_true, Bool.and_eq_false_iff, Bool.or_eq_false_iff, h0] at *
    all_goals (try subst hr)
    all_goals (try subst hr2)
    all_goals first
      | omega
      | (clear h h0; (try unfold partS); cases hq : secondS (bt s 0) (bt s 1) <;> simp_all <;> omega)
      | (clear h h0; unfold partS; generalize bt s 2 = x at *; generalize needS (bt s 0) = n at *; generalize secondS (bt s 0) (bt s 1) = q at *; generalize s.size = z at *; cases q <;> simp only [decide_eq_decide, decide_eq_false_iff_not] <;> simp at h1 ⊢ <;> omega)
  · exact h.elim)
def l3 : List (FuncId × Con) := (18, partCon) :: l2
theorem l3_ok : ConsOk Tryd.prog (look l3) := cons_cons l2_ok part_ok

def rtPair : Lr := ⟨List Int × ByteArray, fun x => [.own 1, .s x.2], fun x => [.dead, .arr (.int .i64) x.1]⟩
def beginCon : Con := ⟨[.o (.int .i64), .v], fun ags M K => match ags, M with
  | [.own 0, .val (.int .u8 b)], [.arr (.int .i64) xs] => (xs.length ≤ 1000000000 ∧ 0 ≤ b ∧ b < 256) ∧ ∀ l t, (l, t) = beginS b → K (.tup [.own 1, .s t]) [.dead, ints (xs ++ l)]
  | _, _ => False⟩
def beginCfg : Cfg := { cfg0 with rt := some rtPair }
theorem begin_vc (xs : List Int) (b : Int) (K : AV → List Blk → Prop) : (evFn (env l3) Tryd.f49 beginCfg [.own 0, .int .u8 b] [ints xs] K) = (
  (decide (b < (128 : Int)) = true → (xs.length + [IntKind.i64.wrap b].length ≤ 140737488355328 ∧ (xs.length + [IntKind.i64.wrap b].length) * 8 ≤ 140737488355328) ∧ ∃ (x :
  List Int × ByteArray), xs ++ [IntKind.i64.wrap b] = x.fst ∧ ByteArray.mk #[] = x.snd ∧ Leaf rtPair K x) ∧ (decide (b < (128 : Int)) = false → ∀ (r : Bool), r = partS
  (strBytes [b]) → (r = true → ∃ (x : List Int × ByteArray), xs = x.fst ∧ strBytes [b] = x.snd ∧ Leaf rtPair K x) ∧ (r = false → (xs.length + 1 ≤ 140737488355328 ∧
  (xs.length + 1) * 8 ≤ 140737488355328) ∧ ∃ (x : List Int × ByteArray), xs ++ [(65533 : Int)] = x.fst ∧ ByteArray.mk #[] = x.snd ∧ Leaf rtPair K x))) := by kernel_rfl

theorem w64 {n : Int} (h : -9223372036854775808 ≤ n ∧ n ≤ 9223372036854775807) : IntKind.i64.wrap n = n := by
  simp [IntKind.wrap, IntKind.bits, IntKind.signed]; omega
theorem begin_ok : ConOk Tryd.prog 49 beginCon := fn_ok (env_ok l3_ok) mixed Tryd.func49 rfl beginCon beginCfg (by
  intro ags M K h
  unfold beginCon at h
  simp only at h
  split at h
  · rename_i b xs
    show evFn (env l3) _ _ [.own 0, .int .u8 b] [ints xs] _
    rw [begin_vc]
    obtain ⟨⟨p1, p2, p3⟩, h⟩ := h
    have hw : IntKind.i64.wrap b = b := w64 (by omega)
    rw [hw]
    refine ⟨fun h1 => ⟨⟨by simp; omega, by simp; omega⟩, (_, _), rfl, rfl, h _ _ ?_⟩, fun h1 r hr => ⟨fun h2 => ⟨(_, _), rfl, rfl, ?_⟩, fun h2 => ⟨⟨by omega, by omega⟩, (_, _), rfl, rfl, h _ _ ?_⟩⟩⟩
    · have h1 := of_decide_eq_true h1
      simp [beginS, h1]
    · have h1 := of_decide_eq_false h1
      have := h [] (strBytes [b]) (by simp [beginS, h1, ← hr, h2])
      rw [List.append_nil] at this; exact this
    · have h1 := of_decide_eq_false h1
      simp [beginS, h1, ← hr, h2]
  · exact h.elim)
def l4 : List (FuncId × Con) := (49, beginCon) :: l3
theorem l4_ok : ConsOk Tryd.prog (look l4) := cons_cons l3_ok begin_ok

def decodeCon : Con := ⟨[.v], fun ags M K => match ags, M with
  | [.val (.string s)], M => ∀ r n : Nat, (r, n) = Lib.decodeGo s → K (.tup [.int .i32 r, .i n]) M
  | _, _ => False⟩
theorem g_first : Tryd.prog.globalNamed "unicode/utf8.first" = some 0 := by kernel_rfl
theorem g_acc : Tryd.prog.globalNamed "unicode/utf8.acceptRanges" = some 1 := by kernel_rfl
theorem tabs (w0 : Base Tryd.prog) {F Hp : PH} {hs : List Value} {M : List Blk} {w : World} (hi : InvS w0 F Hp hs M w) : Lib.Utf8Tabs 0 1 w :=
  w0.ok 0 1 g_first g_acc w (fun b o h => (hi.gl b o h).elim (hi.fr b o) (hi.perm b o))
theorem run1 (s : ByteArray) (w : World) (hT : Lib.Utf8Tabs 0 1 w) : Calls Tryd.prog 50 [Value.string s].toArray w fun e w' => ∃ v, e = .returned v ∧ RowKit.Below w.heap.size w w' ∧ v = .tuple #[.int .i32 (Lib.decodeGo s).1, .int .i64 (Lib.decodeGo s).2] := by
  refine Calls.mono (Tryd.utf8_DecodeRuneInString s w hT) ?_
  rintro e w' ⟨rfl, hb⟩
  exact ⟨_, rfl, hb, rfl⟩
theorem decode_ok : ConOk Tryd.prog 50 decodeCon := con_of_calls Tryd.func50 rfl rfl decodeCon (by
  intro ags M K h
  unfold decodeCon at h
  simp only at h
  split at h
  · rename_i M' s
    refine ⟨_, h (Lib.decodeGo s).1 (Lib.decodeGo s).2 rfl, fun w0 F Hp hs w vs hi hr => ?_⟩
    obtain ⟨u, v', rfl, h1, h2⟩ := Reps.inv_cons hr
    have e2 := h2.inv_nil
    have e1 := h1.inv_val
    subst e1 e2
    refine Calls.mono (run1 s w (tabs w0 hi)) ?_
    rintro e w' ⟨v, rfl, hb, rfl⟩
    exact ⟨_, rfl, hb, .tup _ _ (.cons (.val _) (.cons (.val _) .nil))⟩
  · exact h.elim)
def l5 : List (FuncId × Con) := (50, decodeCon) :: l4
theorem l5_ok : ConsOk Tryd.prog (look l5) := cons_cons l4_ok decode_ok
end Go.Cx
end
section
namespace Go.Cx
open Go Go.Sx Go.Proofs
set_option maxRecDepth 100000
set_option maxHeartbeats 0
def stepCon : Con := ⟨[.o (.int .i64), .v, .v], fun ags M K => match ags, M with
  | [.own 0, .val (.string part), .val (.int .u8 b)], [.arr (.int .i64) xs] => (xs.length ≤ 900000000 ∧ 0 ≤ b ∧ b < 256 ∧ part.size ≤ 1000000) ∧ ∀ l t, (l, t) = stepS part b → K (.tup [.own 1, .s t]) [.dead, ints (xs ++ l)]
  | _, _ => False⟩
def stepCfg : Cfg := { cfg0 with rt := some rtPair }
theorem step_vc (xs : List Int) (part : ByteArray) (b : Int) (K : AV → List Blk → Prop) : (evFn (env l5) Tryd.f36 stepCfg [.own 0, .s part, .int .u8 b] [ints xs] K) = (
  (decide (part = ByteArray.mk #[]) = true → (xs.length ≤ 1000000000 ∧ (0 : Int) ≤ b ∧ b < (256 : Int)) ∧ ∀ (l : List Int) (t : ByteArray), (l, t) = beginS b → ∃ (x : List
  Int × ByteArray), xs ++ l = x.fst ∧ t = x.snd ∧ Leaf rtPair K x) ∧ (decide (part = ByteArray.mk #[]) = false → part.size + (strBytes [b]).size ≤ 4611686018427387904 ∧ ∀
  (r : Bool), r = partS (part ++ strBytes [b]) → (r = true → ∃ (x : List Int × ByteArray), xs = x.fst ∧ part ++ strBytes [b] = x.snd ∧ Leaf rtPair K x) ∧ (r = false → ∀ (r
  n : Nat), (r, n) = Lib.decodeGo (part ++ strBytes [b]) → (decide ((↑n : Int) = (↑(part ++ strBytes [b]).size : Int)) = true → (xs.length + [IntKind.i64.wrap (↑r :
  Int)].length ≤ 140737488355328 ∧ (xs.length + [IntKind.i64.wrap (↑r : Int)].length) * 8 ≤ 140737488355328) ∧ ∃ (x : List Int × ByteArray), xs ++ [IntKind.i64.wrap (↑r :
  Int)] = x.fst ∧ ByteArray.mk #[] = x.snd ∧ Leaf rtPair K x) ∧ (decide ((↑n : Int) = (↑(part ++ strBytes [b]).size : Int)) = false → (xs.length + 1 ≤ 140737488355328 ∧
  (xs.length + 1) * 8 ≤ 140737488355328) ∧ ((xs ++ [(65533 : Int)]).length ≤ 1000000000 ∧ (0 : Int) ≤ b ∧ b < (256 : Int)) ∧ ∀ (l : List Int) (t : ByteArray), (l, t) =
  beginS b → ∃ (x : List Int × ByteArray), xs ++ [(65533 : Int)] ++ l = x.fst ∧ t = x.snd ∧ Leaf rtPair K x)))) := by kernel_rfl

theorem decode_max (s : ByteArray) (pos : Nat) : (Utf8.decode s pos).1 ≤ 1114111 := by
  have hb : ∀ k, (s.get! (pos + k)).toNat < 256 := fun k => (s.get! (pos + k)).toNat_lt
  have h0 := hb 0; have h1 := hb 1; have h2 := hb 2; have h3 := hb 3
  simp only [Utf8.decode]
  repeat' split
  all_goals simp_all [Utf8.runeError, Utf8.valid]
  all_goals omega
theorem decodeGo_le (s : ByteArray) : (Lib.decodeGo s).1 ≤ 1114111 := by
  unfold Lib.decodeGo
  split
  · decide
  · exact decode_max s 0
theorem step_ok : ConOk Tryd.prog 36 stepCon := fn_ok (env_ok l5_ok) mixed Tryd.func36 rfl stepCon stepCfg (by
  intro ags M K h
  unfold stepCon at h
  simp only at h
  split at h
  · rename_i part b xs
    show evFn (env l5) _ _ [.own 0, .s part, .int .u8 b] [ints xs] _
    rw [step_vc]
    obtain ⟨⟨p1, p2, p3, p4⟩, h⟩ := h
    have hsb : (strBytes [b]).size = 1 := rfl
    refine ⟨fun h1 => ⟨⟨by omega, p2, p3⟩, fun l t e => ⟨(_, _), rfl, rfl, h _ _ ?_⟩⟩, fun h1 => ⟨by omega, fun r hr => ⟨fun h2 => ⟨(_, _), rfl, rfl, ?_⟩, fun h2 c n hcn => ⟨fun h3 => ?_, fun h3 => ⟨⟨by omega, by omega⟩, ⟨by simp; omega, p2, p3⟩, fun l t e => ⟨(_, _), rfl, rfl, ?_⟩⟩⟩⟩⟩⟩
    · have h1 := of_decide_eq_true h1
      rw [e]; simp [stepS, h1]
    · have h1 := of_decide_eq_false h1
      have := h [] (part ++ strBytes [b]) (by rw [stepS, if_neg h1, if_pos (hr.symm.trans h2)])
      rw [List.append_nil] at this; exact this
    · have h1 := of_decide_eq_false h1
      have h3 := of_decide_eq_true h3
      have hc : (c : Int) ≤ 1114111 := by
        have := decodeGo_le (part ++ strBytes [b])
        rw [← hcn] at this
        omega
      have hw : IntKind.i64.wrap (c : Int) = c := w64 (by omega)
      rw [hw]
      refine ⟨⟨by simp; omega, by simp; omega⟩, (_, _), rfl, rfl, h _ _ ?_⟩
      have hd1 : (Lib.decodeGo (part ++ strBytes [b])).1 = c := by rw [← hcn]
      have hd2 : (Lib.decodeGo (part ++ strBytes [b])).2 = n := by rw [← hcn]
      rw [stepS, if_neg h1, if_neg (by rw [← hr, h2]; simp), hd1, hd2, if_pos h3]
    · have h1 := of_decide_eq_false h1
      have h3 := of_decide_eq_false h3
      have hd2 : (Lib.decodeGo (part ++ strBytes [b])).2 = n := by rw [← hcn]
      rw [List.append_assoc]
      refine h _ _ ?_
      rw [stepS, if_neg h1, if_neg (by rw [← hr, h2]; simp), hd2, if_neg h3, ← e]
      rfl
  · exact h.elim)
def l6 : List (FuncId × Con) := (36, stepCon) :: l5
theorem l6_ok : ConsOk Tryd.prog (look l6) := cons_cons l5_ok step_ok
theorem beginS_len (b : Int) : (beginS b).1.length ≤ 1 ∧ (beginS b).2.size ≤ 1 := by
  unfold beginS
  split
  · exact ⟨by simp, by simp [ByteArray.size]⟩
  · split
    · exact ⟨by simp, Nat.le_refl 1⟩
    · exact ⟨by simp, by simp [ByteArray.size]⟩
theorem stepS_len (part : ByteArray) (b : Int) : (stepS part b).1.length ≤ 2 ∧ (stepS part b).2.size ≤ part.size + 1 := by
  have hb := beginS_len b
  have h1 : (strBytes [b]).size = 1 := rfl
  unfold stepS
  split
  · omega
  · split
    · exact ⟨by simp, by rw [ByteArray.size_append, h1]; omega⟩
    · split
      · exact ⟨by show 1 ≤ 2; omega, Nat.zero_le _⟩
      · exact ⟨by show (beginS b).1.length + 1 ≤ 2; omega, by show (beginS b).2.size ≤ part.size + 1; omega⟩
def runS (st : List Int × ByteArray) : List Int → List Int × ByteArray
  | [] => st
  | b :: r => runS (st.1 ++ (stepS st.2 b).1, (stepS st.2 b).2) r
theorem bt_range (s : ByteArray) (i : Nat) : 0 ≤ bt s i ∧ bt s i < 256 := by
  unfold bt
  have := ((s.data.toList[i]?).getD 0).toNat_lt
  omega
theorem drop_bytes {s : ByteArray} {i : Nat} (h : i < s.size) : (bytesL s).drop i = bt s i :: (bytesL s).drop (i + 1) := by
  have hl : i < (bytesL s).length := by rw [bytesL_len]; exact h
  rw [List.drop_eq_getElem_cons hl]
  congr 1
  have h' : i < s.data.toList.length := h
  simp only [bytesL, List.getElem_map, bt]
  rw [List.getElem?_eq_getElem h']; rfl
theorem beginS_may (b : Int) : (beginS b).2 = ⟨#[]⟩ ∨ partS (beginS b).2 = true := by
  unfold beginS
  split
  · exact .inl rfl
  · split
    · rename_i h; exact .inr h
    · exact .inl rfl
theorem stepS_may (part : ByteArray) (b : Int) : (stepS part b).2 = ⟨#[]⟩ ∨ partS (stepS part b).2 = true := by
  unfold stepS
  split
  · exact beginS_may b
  · split
    · rename_i h; exact .inr h
    · split
      · exact .inl rfl
      · exact beginS_may b
end Go.Cx
end
section
namespace Go.Cx
open Go Go.Sx Go.Proofs
set_option maxRecDepth 100000
set_option maxHeartbeats 0
def allP (part s : ByteArray) : List Int × ByteArray × Int :=
  if part ≠ ⟨#[]⟩ ∧ partS part = false then ([], ⟨#[]⟩, 1) else ((runS ([], part) (bytesL s)).1, (runS ([], part) (bytesL s)).2, 0)
def allCon : Con := ⟨[.v, .v], fun ags M K => match ags, M with
  | [.val (.string part), .val (.string s)], [] => (s.size ≤ 900000 ∧ part.size ≤ 10000) ∧ ∀ l t e, (l, t, e) = allP part s → K (.tup [.own 0, .s t, .i e]) [ints l]
  | _, _ => False⟩
def rtAll : Lr := ⟨List Int × ByteArray × Int, fun x => [.own 0, .s x.2.1, .i x.2.2], fun x => [ints x.1]⟩
def allLp (part s : ByteArray) : Lp := { X := Nat × List Int × ByteArray, fr := fun x => [(0, .s x.2.2), (1, .s s), (4, .own 0), (16, .i s.size), (17, .i x.1)], M := fun x => [ints x.2.1], inv := fun x => x.1 ≤ s.size ∧ runS x.2 ((bytesL s).drop x.1) = runS ([], part) (bytesL s) ∧ x.2.1.length ≤ 2 * x.1 ∧ x.2.2.size ≤ part.size + x.1, mu := fun x => s.size - x.1 }
def allCfg (part s : ByteArray) : Cfg := { cfg0 with rt := some rtAll, jn := fun r => match r with | 1 => some 14 | _ => none, lp := fun r => match r with | 4 => some (allLp part s) | _ => none }
theorem all_vc (part : ByteArray) (s : ByteArray) (K : AV → List Blk → Prop) : (evFn (env l6) Tryd.f10 (allCfg part s) [.s part, .s s] [] K) = (
  ∃ (c : Bool), (((!decide (part = ByteArray.mk #[])) = true → ∀ (r : Bool), r = partS part → Same [] [] ∧ (!r) = c) ∧ ((!decide (part = ByteArray.mk #[])) = false → Same
  [] [] ∧ false = c)) ∧ (c = true → ∃ (x : List Int × ByteArray × Int), [] = x.fst ∧ ByteArray.mk #[] = x.snd.fst ∧ (1 : Int) = x.snd.snd ∧ Leaf rtAll K x) ∧ (c = false → ∃
  (x0 : Nat × List Int × ByteArray), (x0.fst ≤ s.size ∧ runS x0.snd (List.drop x0.fst (bytesL s)) = runS ([], part) (bytesL s) ∧ x0.snd.fst.length ≤ 2 * x0.fst ∧
  x0.snd.snd.size ≤ part.size + x0.fst) ∧ [] = x0.snd.fst ∧ part = x0.snd.snd ∧ s = s ∧ (↑s.size : Int) = (↑s.size : Int) ∧ (0 : Int) = (↑x0.fst : Int) ∧ ∀ (x : Nat × List
  Int × ByteArray), x.fst ≤ s.size ∧ runS x.snd (List.drop x.fst (bytesL s)) = runS ([], part) (bytesL s) ∧ x.snd.fst.length ≤ 2 * x.fst ∧ x.snd.snd.size ≤ part.size +
  x.fst → (decide ((↑x.fst : Int) < (↑s.size : Int)) = true → ((0 : Int) ≤ (↑x.fst : Int) ∧ (↑x.fst : Int) < (↑s.size : Int)) ∧ (x.snd.fst.length ≤ 900000000 ∧ (0 : Int) ≤
  bt s (↑x.fst : Int).toNat ∧ bt s (↑x.fst : Int).toNat < (256 : Int) ∧ x.snd.snd.size ≤ 1000000) ∧ ∀ (l : List Int) (t : ByteArray), (l, t) = stepS x.snd.snd (bt s (↑x.fst
  : Int).toNat) → ∃ (x' : Nat × List Int × ByteArray), ((x'.fst ≤ s.size ∧ runS x'.snd (List.drop x'.fst (bytesL s)) = runS ([], part) (bytesL s) ∧ x'.snd.fst.length ≤ 2 *
  x'.fst ∧ x'.snd.snd.size ≤ part.size + x'.fst) ∧ s.size - x'.fst < s.size - x.fst) ∧ x.snd.fst ++ l = x'.snd.fst ∧ t = x'.snd.snd ∧ s = s ∧ (↑s.size : Int) = (↑s.size :
  Int) ∧ IntKind.i64.wrap ((↑x.fst : Int) + (1 : Int)) = (↑x'.fst : Int) ∧ True) ∧ (decide ((↑x.fst : Int) < (↑s.size : Int)) = false → ∃ (x_1 : List Int × ByteArray ×
  Int), x.snd.fst = x_1.fst ∧ x.snd.snd = x_1.snd.fst ∧ (0 : Int) = x_1.snd.snd ∧ Leaf rtAll K x_1))) := by kernel_rfl

theorem all_ok : ConOk Tryd.prog 10 allCon := fn_ok2 (env_ok l6_ok) mixed Tryd.func10 rfl allCon (by
  intro ags M K h
  unfold allCon at h
  simp only at h
  split at h
  · rename_i part s
    refine ⟨allCfg part s, ?_⟩
    show evFn (env l6) _ _ [.s part, .s s] [] _
    rw [all_vc]
    obtain ⟨⟨p1, p2⟩, h⟩ := h
    refine ⟨decide (part ≠ ⟨#[]⟩ ∧ partS part = false), ⟨fun h1 r hr => ⟨rfl, ?_⟩, fun h1 => ⟨rfl, ?_⟩⟩, fun h1 => ⟨([], ⟨#[]⟩, 1), rfl, rfl, rfl, h _ _ _ ?_⟩, fun h1 => ⟨(0, [], part), ⟨by simp, rfl, by simp, by simp⟩, rfl, rfl, rfl, rfl, rfl, ?_⟩⟩
    · subst hr
      have h1 : ¬ part = ⟨#[]⟩ := by simpa using h1
      cases partS part <;> simp [h1]
    · have h1 : part = ⟨#[]⟩ := by simpa using h1
      simp [h1]
    · have h1 := of_decide_eq_true h1
      rw [allP, if_pos h1]
    · have h1 := of_decide_eq_false h1
      rintro ⟨i, xs, t⟩ ⟨q1, q2, q3, q4⟩
      simp only at q1 q2 q3 q4
      refine ⟨fun h2 => ?_, fun h2 => ⟨(xs, t, 0), rfl, rfl, rfl, h _ _ _ ?_⟩⟩
      · have h2 := of_decide_eq_true h2
        have hi : i < s.size := by omega
        rw [Int.toNat_natCast]
        have hr := bt_range s i
        refine ⟨⟨by omega, by omega⟩, ⟨?_, hr.1, hr.2, ?_⟩, fun l t' e => ⟨(i + 1, xs ++ l, t'), ⟨⟨?_, ?_, ?_, ?_⟩, ?_⟩, rfl, rfl, rfl, rfl, ?_, trivial⟩⟩
        · show xs.length ≤ 900000000; omega
        · show t.size ≤ 1000000; omega
        · show i + 1 ≤ s.size; omega
        · show runS (xs ++ l, t') ((bytesL s).drop (i + 1)) = _
          rw [← q2, drop_bytes hi, runS]
          rw [← e]
        · show (xs ++ l).length ≤ 2 * (i + 1)
          have := (stepS_len t (bt s i)).1
          rw [← e] at this
          have this : l.length ≤ 2 := this
          rw [List.length_append]; omega
        · show t'.size ≤ part.size + (i + 1)
          have := (stepS_len t (bt s i)).2
          rw [← e] at this
          have this : t'.size ≤ t.size + 1 := this
          omega
        · show s.size - (i + 1) < s.size - i; omega
        · rw [w64 (by omega)]; rfl
      · have h2 := of_decide_eq_false h2
        have hi : i = s.size := by omega
        subst hi
        rw [List.drop_of_length_le (by rw [bytesL_len]; exact Nat.le_refl _)] at q2
        have q2 : (xs, t) = runS ([], part) (bytesL s) := q2
        rw [allP, if_neg h1, ← q2]
  · exact h.elim)
def l7 : List (FuncId × Con) := (10, allCon) :: l6
theorem l7_ok : ConsOk Tryd.prog (look l7) := cons_cons l6_ok all_ok
end Go.Cx
end
section
namespace Go.Cx
open Go Go.Sx Go.Proofs
set_option maxRecDepth 100000
set_option maxHeartbeats 0
def moreS (b : Int) : Int := if 194 ≤ b ∧ b ≤ 223 then 1 else if 224 ≤ b ∧ b ≤ 239 then 2 else if 240 ≤ b ∧ b ≤ 244 then 3 else -1
def folS (f i b : Int) : Bool := if i = 1 then secondS f b else decide (128 ≤ b ∧ b ≤ 191)
def moreCon : Con := ⟨[.v], fun ags M K => match ags, M with
  | [.val (.int .u8 b)], [] => ∀ r, r = moreS b → K (.i r) []
  | _, _ => False⟩
theorem more_vc (b : Int) (K : AV → List Blk → Prop) : (evFn (env l6) Tryd.f39 needCfg [.int .u8 b] [] K) = (
  ∃ (c : Bool), ((decide ((194 : Int) ≤ b) = true → Same [] [] ∧ decide (b ≤ (223 : Int)) = c) ∧ (decide ((194 : Int) ≤ b) = false → Same [] [] ∧ false = c)) ∧ (c = true →
  K (AV.val (Value.int IntKind.i64 (1 : Int))) []) ∧ (c = false → ∃ (c : Bool), ((decide ((224 : Int) ≤ b) = true → Same [] [] ∧ decide (b ≤ (239 : Int)) = c) ∧ (decide
  ((224 : Int) ≤ b) = false → Same [] [] ∧ false = c)) ∧ (c = true → K (AV.val (Value.int IntKind.i64 (2 : Int))) []) ∧ (c = false → ∃ (c : Bool), ((decide ((240 : Int) ≤
  b) = true → Same [] [] ∧ decide (b ≤ (244 : Int)) = c) ∧ (decide ((240 : Int) ≤ b) = false → Same [] [] ∧ false = c)) ∧ (c = true → K (AV.val (Value.int IntKind.i64 (3 :
  Int))) []) ∧ (c = false → K (AV.val (Value.int IntKind.i64 (-1 : Int))) [])))) := by kernel_rfl

theorem more_ok : ConOk Tryd.prog 39 moreCon := fn_ok (env_ok l6_ok) mixed Tryd.func39 rfl moreCon needCfg (by
  intro ags M K h
  unfold moreCon at h
  simp only at h
  split at h
  · rename_i b
    show evFn (env l6) _ _ _ _ _
    rw [more_vc]
    refine ⟨decide (194 ≤ b ∧ b ≤ 223), by simp only [Same, decide_eq_true_eq, decide_eq_false_iff_not, true_and, and_true, decide_eq_decide, Bool.false_eq, Bool.true_eq, Bool.not_eq_true', Bool.not_eq_eq_eq_not, Bool.not_true, Bool.not_false, Bool.and_eq_true, Bool.or_eq_true, Bool.and_eq_false_iff, Bool.or_eq_false_iff]; omega, fun h1 => h _ ?_, fun h1 => ⟨decide (224 ≤ b ∧ b ≤ 239), by simp only [Same, decide_eq_true_eq, decide_eq_false_iff_not, true_and, and_true, decide_eq_decide, Bool.false_eq, Bool.true_eq, Bool.not_eq_true', Bool.not_eq_eq_eq_not, Bool.not_true, Bool.not_false, Bool.and_eq_true, Bool.or_eq_true, Bool.and_eq_false_iff, Bool.or_eq_false_iff]; omega, fun h2 => h _ ?_, fun h2 => ⟨decide (240 ≤ b ∧ b ≤ 244), by simp only [Same, decide_eq_true_eq, decide_eq_false_iff_not, true_and, and_true, decide_eq_decide, Bool.false_eq, Bool.true_eq, Bool.not_eq_true', Bool.not_eq_eq_eq_not, Bool.not_true, Bool.not_false, Bool.and_eq_true, Bool.or_eq_true, Bool.and_eq_false_iff, Bool.or_eq_false_iff]; omega, fun h3 => h _ ?_, fun h3 => h _ ?_⟩⟩⟩ <;> simp only [Same, decide_eq_true_eq, decide_eq_false_iff_not, true_and, and_true, decide_eq_decide, Bool.false_eq, Bool.true_eq, Bool.not_eq_true', Bool.not_eq_eq_eq_not, Bool.not_true, Bool.not_false, Bool.and_eq_true, Bool.or_eq_true, Bool.and_eq_false_iff, Bool.or_eq_false_iff] at * <;> simp only [moreS] <;> (repeat' split) <;> omega
  · exact h.elim)
def l8 : List (FuncId × Con) := (39, moreCon) :: l6
theorem l8_ok : ConsOk Tryd.prog (look l8) := cons_cons l6_ok more_ok
def folCon : Con := ⟨[.v, .v, .v], fun ags M K => match ags, M with
  | [.val (.int .u8 f), .val (.int .i64 i), .val (.int .u8 b)], [] => ∀ r, r = folS f i b → K (.b r) []
  | _, _ => False⟩
def folCfg : Cfg := { cfg0 with jn := fun r => match r with | 12 => some 6 | _ => none }
theorem fol_vc (f : Int) (i : Int) (b : Int) (K : AV → List Blk → Prop) : (evFn (env l8) Tryd.f40 folCfg [.int .u8 f, .int .i64 i, .int .u8 b] [] K) = (
  (decide (i = (1 : Int)) = true → (decide (f = (224 : Int)) = true → ∃ (c : Bool), ((decide ((160 : Int) ≤ b) = true → Same [] [] ∧ decide (b ≤ (191 : Int)) = c) ∧ (decide
  ((160 : Int) ≤ b) = false → Same [] [] ∧ false = c)) ∧ K (AV.val (Value.bool c)) []) ∧ (decide (f = (224 : Int)) = false → (decide (f = (237 : Int)) = true → ∃ (c :
  Bool), ((decide ((128 : Int) ≤ b) = true → Same [] [] ∧ decide (b ≤ (159 : Int)) = c) ∧ (decide ((128 : Int) ≤ b) = false → Same [] [] ∧ false = c)) ∧ K (AV.val
  (Value.bool c)) []) ∧ (decide (f = (237 : Int)) = false → (decide (f = (240 : Int)) = true → ∃ (c : Bool), ((decide ((144 : Int) ≤ b) = true → Same [] [] ∧ decide (b ≤
  (191 : Int)) = c) ∧ (decide ((144 : Int) ≤ b) = false → Same [] [] ∧ false = c)) ∧ K (AV.val (Value.bool c)) []) ∧ (decide (f = (240 : Int)) = false → (decide (f = (244 :
  Int)) = true → ∃ (c : Bool), ((decide ((128 : Int) ≤ b) = true → Same [] [] ∧ decide (b ≤ (143 : Int)) = c) ∧ (decide ((128 : Int) ≤ b) = false → Same [] [] ∧ false = c))
  ∧ K (AV.val (Value.bool c)) []) ∧ (decide (f = (244 : Int)) = false → ∃ (c : Bool), ((decide ((128 : Int) ≤ b) = true → Same [] [] ∧ decide (b ≤ (191 : Int)) = c) ∧
  (decide ((128 : Int) ≤ b) = false → Same [] [] ∧ false = c)) ∧ K (AV.val (Value.bool c)) []))))) ∧ (decide (i = (1 : Int)) = false → ∃ (c : Bool), ((decide ((128 : Int) ≤
  b) = true → Same [] [] ∧ decide (b ≤ (191 : Int)) = c) ∧ (decide ((128 : Int) ≤ b) = false → Same [] [] ∧ false = c)) ∧ K (AV.val (Value.bool c)) [])) := by kernel_rfl

theorem fol_ok : ConOk Tryd.prog 40 folCon := fn_ok (env_ok l8_ok) mixed Tryd.func40 rfl folCon folCfg (by
  intro ags M K h
  unfold folCon at h
  simp only at h
  split at h
  · rename_i f i b
    show evFn (env l8) _ _ _ _ _
    rw [fol_vc]
    have key : ∀ lo hi : Int, folS f i b = decide (lo ≤ b ∧ b ≤ hi) → ∃ c, ((decide (lo ≤ b) = true → Same [] [] ∧ decide (b ≤ hi) = c) ∧ (decide (lo ≤ b) = false → Same [] [] ∧ false = c)) ∧ K (.val (.bool c)) [] := by
      intro lo hi e
      refine ⟨_, ?_, h _ e.symm⟩
      simp only [Same, decide_eq_true_eq, decide_eq_false_iff_not, true_and, and_true, decide_eq_decide, Bool.false_eq, Bool.true_eq, Bool.not_eq_true', Bool.not_eq_eq_eq_not, Bool.not_true, Bool.not_false, Bool.and_eq_true, Bool.or_eq_true, Bool.and_eq_false_iff, Bool.or_eq_false_iff]; omega
    refine ⟨fun h0 => ⟨fun h1 => key _ _ ?_, fun h1 => ⟨fun h2 => key _ _ ?_, fun h2 => ⟨fun h3 => key _ _ ?_, fun h3 => ⟨fun h4 => key _ _ ?_, fun h4 => key _ _ ?_⟩⟩⟩⟩, fun h0 => key _ _ ?_⟩ <;> simp only [Same, decide_eq_true_eq, decide_eq_false_iff_not, true_and, and_true, decide_eq_decide, Bool.false_eq, Bool.true_eq, Bool.not_eq_true', Bool.not_eq_eq_eq_not, Bool.not_true, Bool.not_false, Bool.and_eq_true, Bool.or_eq_true, Bool.and_eq_false_iff, Bool.or_eq_false_iff] at * <;> simp only [folS, secondS, *] <;> simp <;> omega
  · exact h.elim)
def l9 : List (FuncId × Con) := (40, folCon) :: l8
theorem l9_ok : ConsOk Tryd.prog (look l9) := cons_cons l8_ok fol_ok
def rpCfg (s : ByteArray) : Cfg := { cfg0 with hd := (fun r => match r with | 6 => [6, 7, 8] | _ => []), jn := (fun r => match r with | 1 => some 14 | _ => none), lp := (fun r => match r with | 4 => some { X := Nat, fr := fun i => [(0, .s s), (3, .i i)], M := fun _ => [], inv := fun i => 1 ≤ i ∧ i ≤ s.size ∧ ∀ j : Nat, 1 ≤ j → j < i → folS (bt s 0) j (bt s j) = true, mu := fun i => s.size - i } | _ => none) }
theorem rp_vc (s : ByteArray) (K : AV → List Blk → Prop) : (evFn (env l9) Tryd.f19 (rpCfg s) [.s s] [] K) = (
  ∃ (c : Bool), ((decide ((↑s.size : Int) = (0 : Int)) = true → Same [] [] ∧ true = c) ∧ (decide ((↑s.size : Int) = (0 : Int)) = false → ((0 : Int) ≤ (0 : Int) ∧ (0 : Int)
  < (↑s.size : Int)) ∧ ∀ (r : Int), r = moreS (bt s 0) → Same [] [] ∧ decide (r < (↑s.size : Int)) = c)) ∧ (c = true → K (AV.val (Value.bool false)) []) ∧ (c = false → ∃
  (x0 : Nat), (1 ≤ x0 ∧ x0 ≤ s.size ∧ ∀ (j : Nat), 1 ≤ j → j < x0 → folS (bt s 0) (↑j : Int) (bt s j) = true) ∧ s = s ∧ (1 : Int) = (↑x0 : Int) ∧ ∀ (x : Nat), (1 ≤ x ∧ x ≤
  s.size ∧ ∀ (j : Nat), 1 ≤ j → j < x → folS (bt s 0) (↑j : Int) (bt s j) = true) → (decide ((↑x : Int) < (↑s.size : Int)) = true → ((0 : Int) ≤ (0 : Int) ∧ (0 : Int) <
  (↑s.size : Int)) ∧ ((0 : Int) ≤ (↑x : Int) ∧ (↑x : Int) < (↑s.size : Int)) ∧ ∀ (r : Bool), r = folS (bt s 0) (↑x : Int) (bt s (↑x : Int).toNat) → ((!r) = true → K (AV.val
  (Value.bool false)) []) ∧ ((!r) = false → ∃ (x' : Nat), ((1 ≤ x' ∧ x' ≤ s.size ∧ ∀ (j : Nat), 1 ≤ j → j < x' → folS (bt s 0) (↑j : Int) (bt s j) = true) ∧ s.size - x' <
  s.size - x) ∧ s = s ∧ IntKind.i64.wrap ((↑x : Int) + (1 : Int)) = (↑x' : Int) ∧ True)) ∧ (decide ((↑x : Int) < (↑s.size : Int)) = false → K (AV.val (Value.bool true))
  []))) := by kernel_rfl

def refPartCon : Con := partCon
theorem more_need (b : Int) (n : Int) (h : 1 ≤ n) : n ≤ moreS b ↔ n < needS b := by
  unfold moreS needS
  repeat' split
  all_goals omega
theorem need_le (b : Int) : needS b ≤ 4 := by
  unfold needS
  repeat' split
  all_goals omega
theorem rp_ok : ConOk Tryd.prog 19 partCon := fn_ok2 (env_ok l9_ok) mixed Tryd.func19 rfl partCon (by
  intro ags M K h
  unfold partCon at h
  simp only at h
  split at h
  · rename_i s
    refine ⟨rpCfg s, ?_⟩
    show evFn (env l9) _ _ [.s s] [] _
    rw [rp_vc]
    refine ⟨decide (s.size = 0 ∨ moreS (bt s 0) < s.size), ⟨fun h1 => ⟨rfl, ?_⟩, fun h1 => ⟨⟨by omega, ?_⟩, fun r hr => ⟨rfl, ?_⟩⟩⟩, fun h1 => h _ ?_, fun h1 => ⟨1, ⟨Nat.le_refl _, ?_, fun j h1 h2 => by omega⟩, rfl, rfl, ?_⟩⟩
    · have h1 : s.size = 0 := by have := of_decide_eq_true h1; omega
      simp [h1]
    · have h1 := of_decide_eq_false h1; omega
    · have h1 : ¬ s.size = 0 := by have := of_decide_eq_false h1; omega
      rw [hr]; simp only [decide_eq_decide]; omega
    · have h1 := of_decide_eq_true h1
      symm
      apply decide_eq_false
      rintro ⟨q1, q2, _⟩
      have := (more_need (bt s 0) s.size (by omega)).2 q2
      omega
    · have h1 := of_decide_eq_false h1; omega
    · have h1 := of_decide_eq_false h1
      have hn := (more_need (bt s 0) s.size (by omega)).1 (by omega)
      have h4 := need_le (bt s 0)
      rintro x ⟨q1, q2, q3⟩
      refine ⟨fun h2 => ?_, fun h2 => h _ ?_⟩
      · have h2 := of_decide_eq_true h2
        refine ⟨⟨by omega, by omega⟩, ⟨by omega, by omega⟩, fun r hr => ⟨fun h3 => h _ ?_, fun h3 => ⟨x + 1, ⟨⟨by omega, by omega, fun j j1 j2 => ?_⟩, by omega⟩, rfl, ?_, trivial⟩⟩⟩
        · rw [Int.toNat_natCast] at hr
          have hf : folS (bt s 0) x (bt s x) = false := by rw [← hr]; simpa using h3
          symm
          apply decide_eq_false
          rintro ⟨_, _, p3, p4⟩
          have hx : x = 1 ∨ x = 2 := by omega
          rcases hx with rfl | rfl
          · simp only [folS] at hf
            have := p3 (by omega)
            simp [this] at hf
          · simp only [folS] at hf
            have := p4 (by omega)
            simp at hf
            omega
        · rw [Int.toNat_natCast] at hr
          by_cases e : j = x
          · subst e; rw [← hr]; simpa using h3
          · exact q3 j j1 (by omega)
        · rw [w64 (by omega)]; omega
      · have h2 := of_decide_eq_false h2
        have hx : x = s.size := by omega
        symm
        apply decide_eq_true
        refine ⟨by omega, hn, fun p => ?_, fun p => ?_⟩
        · have := q3 1 (by omega) (by omega)
          simpa [folS] using this
        · have := q3 2 (by omega) (by omega)
          simpa [folS] using this
  · exact h.elim)
def l10 : List (FuncId × Con) := (19, partCon) :: l9
theorem l10_ok : ConsOk Tryd.prog (look l10) := cons_cons l9_ok rp_ok
def mayCon : Con := ⟨[.v], fun ags M K => match ags, M with
  | [.val (.string s)], [] => ∀ r, r = decide (s = ⟨#[]⟩ ∨ partS s = true) → K (.b r) []
  | _, _ => False⟩
def mayCfg : Cfg := { cfg0 with jn := fun r => match r with | 1 => some 2 | _ => none }
theorem may_vc (s : ByteArray) (K : AV → List Blk → Prop) : (evFn (env l10) Tryd.f11 mayCfg [.s s] [] K) = (
  ∃ (c : Bool), ((decide (s = ByteArray.mk #[]) = true → Same [] [] ∧ true = c) ∧ (decide (s = ByteArray.mk #[]) = false → ∀ (r : Bool), r = partS s → Same [] [] ∧ r = c))
  ∧ K (AV.val (Value.bool c)) []) := by kernel_rfl

theorem may_ok : ConOk Tryd.prog 11 mayCon := fn_ok (env_ok l10_ok) mixed Tryd.func11 rfl mayCon mayCfg (by
  intro ags M K h
  unfold mayCon at h
  simp only at h
  split at h
  · rename_i s
    show evFn (env l10) _ _ _ _ _
    rw [may_vc]
    refine ⟨_, ⟨fun h1 => ⟨rfl, ?_⟩, fun h1 r hr => ⟨rfl, ?_⟩⟩, h _ rfl⟩
    · have h1 := of_decide_eq_true h1
      simp [h1]
    · have h1 := of_decide_eq_false h1
      rw [hr]; simp [h1]
  · exact h.elim)
def l11 : List (FuncId × Con) := (11, mayCon) :: l10
theorem l11_ok : ConsOk Tryd.prog (look l11) := cons_cons l10_ok may_ok
end Go.Cx
end
section
namespace Go.Cx
open Go Go.Sx Go.Proofs
set_option maxRecDepth 100000
set_option maxHeartbeats 0
def eqNCon : Con := ⟨[.r (.int .i64), .r (.int .i64)], fun ags M K => match ags, M with
  | [.lt (.int .i64) a, .lt (.int .i64) b], [] => a.length ≤ 4611686018427387904 ∧ ∀ r, r = decide ((a : List Int) = b) → K (.b r) []
  | _, _ => False⟩
def eqNCfg (a b : List Int) : Cfg := { cfg0 with hd := (fun r => match r with | 6 => [8, 9] | _ => []), lp := (fun r => match r with | 4 => some { X := Nat, fr := fun i => [(0, .lt (.int .i64) a), (1, .lt (.int .i64) b), (5, .i i)], M := fun _ => [], inv := fun i => i ≤ a.length ∧ a.take i = b.take i, mu := fun i => a.length - i } | _ => none) }
theorem eqN_vc (a : List Int) (b : List Int) (K : AV → List Blk → Prop) : (evFn (env l11) Tryd.f14 (eqNCfg a b) [.lt (.int .i64) a, .lt (.int .i64) b] [] K) = (
  ((!decide ((↑a.length : Int) = (↑b.length : Int))) = true → K (AV.val (Value.bool false)) []) ∧ ((!decide ((↑a.length : Int) = (↑b.length : Int))) = false → ∃ (x0 : Nat),
  (x0 ≤ a.length ∧ List.take x0 a = List.take x0 b) ∧ a = a ∧ b = b ∧ (0 : Int) = (↑x0 : Int) ∧ ∀ (x : Nat), x ≤ a.length ∧ List.take x a = List.take x b → (decide ((↑x :
  Int) < (↑a.length : Int)) = true → ((0 : Int) ≤ (↑x : Int) ∧ (↑x : Int) < (↑a.length : Int)) ∧ ((0 : Int) ≤ (↑x : Int) ∧ (↑x : Int) < (↑b.length : Int)) ∧ ((!decide (gt
  (Kd.int IntKind.i64) a (↑x : Int).toNat = gt (Kd.int IntKind.i64) b (↑x : Int).toNat)) = true → K (AV.val (Value.bool false)) []) ∧ ((!decide (gt (Kd.int IntKind.i64) a
  (↑x : Int).toNat = gt (Kd.int IntKind.i64) b (↑x : Int).toNat)) = false → ∃ (x' : Nat), ((x' ≤ a.length ∧ List.take x' a = List.take x' b) ∧ a.length - x' < a.length - x)
  ∧ a = a ∧ b = b ∧ IntKind.i64.wrap ((↑x : Int) + (1 : Int)) = (↑x' : Int) ∧ True)) ∧ (decide ((↑x : Int) < (↑a.length : Int)) = false → K (AV.val (Value.bool true)) []))) := by kernel_rfl

theorem eqN_ok : ConOk Tryd.prog 14 eqNCon := fn_ok2 (env_ok l11_ok) mixed Tryd.func14 rfl eqNCon (by
  intro ags M K h
  unfold eqNCon at h
  simp only at h
  split at h
  · rename_i a b
    refine ⟨eqNCfg a b, ?_⟩
    show evFn (env l11) _ _ [.lt (.int .i64) a, .lt (.int .i64) b] [] _
    rw [eqN_vc]
    obtain ⟨hlen, h⟩ := h
    refine ⟨fun h1 => h _ ?_, fun h1 => ⟨0, ⟨Nat.zero_le _, rfl⟩, rfl, rfl, rfl, ?_⟩⟩
    · have h1 : ¬ ((a.length : Int) = b.length) := by simpa using h1
      symm
      apply decide_eq_false
      intro e; rw [e] at h1; exact h1 rfl
    · have h1 : a.length = b.length := by
        have : ((a.length : Int) = b.length) := by simpa using h1
        omega
      rintro x ⟨q1, q2⟩
      refine ⟨fun h2 => ?_, fun h2 => h _ ?_⟩
      · have h2 := of_decide_eq_true h2
        have hx : x < a.length := by omega
        have hxb : x < b.length := by omega
        refine ⟨⟨by omega, by omega⟩, ⟨by omega, by omega⟩, ?_⟩
        rw [Int.toNat_natCast]
        have hy := gt_lt (k := .int .i64) hx
        have hz := gt_lt (k := .int .i64) hxb
        generalize gt (.int .i64) a x = y at hy ⊢
        generalize gt (.int .i64) b x = z at hz ⊢
        refine ⟨fun h3 => h _ ?_, fun h3 => ⟨x + 1, ⟨⟨by omega, ?_⟩, by omega⟩, rfl, rfl, by rw [w64 (by omega)]; omega, trivial⟩⟩
        · have h3 : ¬ y = z := by simpa using h3
          symm
          apply decide_eq_false
          intro e
          rw [e, hz] at hy
          cases hy; exact h3 rfl
        · have h3 : y = z := by simpa using h3
          subst h3
          rw [List.take_add_one, List.take_add_one, hy, hz, q2]
      · have h2 := of_decide_eq_false h2
        have hx : x = a.length := by omega
        subst hx
        rw [List.take_length, h1, List.take_length] at q2
        symm
        exact decide_eq_true q2
  · exact h.elim)
def l13 : List (FuncId × Con) := (14, eqNCon) :: l11
theorem l13_ok : ConsOk Tryd.prog (look l13) := cons_cons l11_ok eqN_ok
def textsCon : Con := ⟨[.r .str], fun ags M K => match ags, M with
  | [.lt .str l], [] => (l.length ≤ 140737488351232 ∧ ∀ s ∈ (l : List ByteArray), s.size ≤ 140737488351232) ∧ ∀ r : Int, 0 ≤ r → r ≤ 140737489399808 → (r ≤ 4000 → ∀ s ∈ (l : List ByteArray), s.size ≤ 4000) → K (.i r) []
  | _, _ => False⟩
def textsCfg (l : List ByteArray) : Cfg := { cfg0 with jn := (fun r => match r with | 3 => some 14 | _ => none), lp := (fun r => match r with | 3 => some { X := Nat × Nat, fr := fun x => [(0, .lt .str l), (3, .i x.1), (4, .i x.2)], M := fun _ => [], inv := fun x => x.2 ≤ l.length ∧ (x.1 ≤ 1048576 + 140737488351232) ∧ ∀ j, j < x.2 → ∀ s, l[j]? = some s → s.size ≤ x.1, mu := fun x => l.length - x.2 } | _ => none) }
theorem texts_vc (l : List ByteArray) (K : AV → List Blk → Prop) : (evFn (env l13) Tryd.f35 (textsCfg l) [.lt .str l] [] K) = (
  ∃ (x0 : Nat × Nat), (x0.snd ≤ l.length ∧ x0.fst ≤ 140737489399808 ∧ ∀ (j : Nat), j < x0.snd → ∀ (s : ByteArray), l[j]? = some s → s.size ≤ x0.fst) ∧ l = l ∧ (↑l.length :
  Int) = (↑x0.fst : Int) ∧ (0 : Int) = (↑x0.snd : Int) ∧ ∀ (x : Nat × Nat), (x.snd ≤ l.length ∧ x.fst ≤ 140737489399808 ∧ ∀ (j : Nat), j < x.snd → ∀ (s : ByteArray), l[j]?
  = some s → s.size ≤ x.fst) → ∃ (c : Bool), ((decide ((↑x.snd : Int) < (↑l.length : Int)) = true → Same [] [] ∧ decide ((↑x.fst : Int) < (1048576 : Int)) = c) ∧ (decide
  ((↑x.snd : Int) < (↑l.length : Int)) = false → Same [] [] ∧ false = c)) ∧ (c = true → ((0 : Int) ≤ (↑x.snd : Int) ∧ (↑x.snd : Int) < (↑l.length : Int)) ∧ ∃ (x' : Nat ×
  Nat), ((x'.snd ≤ l.length ∧ x'.fst ≤ 140737489399808 ∧ ∀ (j : Nat), j < x'.snd → ∀ (s : ByteArray), l[j]? = some s → s.size ≤ x'.fst) ∧ l.length - x'.snd < l.length -
  x.snd) ∧ l = l ∧ IntKind.i64.wrap ((↑x.fst : Int) + (↑(ByteArray.size (gt Kd.str l (↑x.snd : Int).toNat)) : Int)) = (↑x'.fst : Int) ∧ IntKind.i64.wrap ((↑x.snd : Int) +
  (1 : Int)) = (↑x'.snd : Int) ∧ True) ∧ (c = false → K (AV.val (Value.int IntKind.i64 (↑x.fst : Int))) [])) := by kernel_rfl

theorem texts_ok : ConOk Tryd.prog 35 textsCon := fn_ok2 (env_ok l13_ok) mixed Tryd.func35 rfl textsCon (by
  intro ags M K h
  unfold textsCon at h
  simp only at h
  split at h
  · rename_i l
    refine ⟨textsCfg l, ?_⟩
    show evFn (env l13) _ _ [.lt .str l] [] _
    rw [texts_vc]
    obtain ⟨⟨p1, p2⟩, h⟩ := h
    refine ⟨(l.length, 0), ⟨Nat.zero_le _, by show l.length ≤ 140737489399808; omega, fun j hj => by have : j < 0 := hj; omega⟩, rfl, rfl, rfl, ?_⟩
    rintro ⟨n, i⟩ ⟨q1, q2, q3⟩
    have q1 : i ≤ l.length := q1
    have q2 : n ≤ 140737489399808 := q2
    refine ⟨decide ((i : Int) < l.length ∧ (n : Int) < 1048576), ⟨fun h1 => ⟨rfl, ?_⟩, fun h1 => ⟨rfl, ?_⟩⟩, fun h1 => ?_, fun h1 => h _ (Int.natCast_nonneg n) (by show (n : Int) ≤ 140737489399808; omega) fun h2 s hs => ?_⟩
    · have h1 : (i : Int) < l.length := of_decide_eq_true h1
      simp [h1]
    · have h1 : ¬ (i : Int) < l.length := of_decide_eq_false h1
      symm; apply decide_eq_false; rintro ⟨e, _⟩; exact h1 e
    · obtain ⟨h1, h2⟩ := of_decide_eq_true h1
      refine ⟨⟨Int.natCast_nonneg i, h1⟩, ?_⟩
      rw [Int.toNat_natCast]
      have hy := gt_lt (k := .str) (xs := l) (i := i) (by omega)
      generalize gt .str l i = y at hy ⊢
      have hsz : ByteArray.size y ≤ 140737488351232 := p2 y (List.mem_of_getElem? hy)
      refine ⟨(n + ByteArray.size y, i + 1), ⟨⟨by show i + 1 ≤ l.length; omega, by show n + ByteArray.size y ≤ 140737489399808; omega, fun j hj s hs => ?_⟩, by show l.length - (i + 1) < l.length - i; omega⟩, rfl, ?_, ?_, trivial⟩
      · have hj : j < i + 1 := hj
        show s.size ≤ n + ByteArray.size y
        by_cases e : j = i
        · subst e; rw [hy] at hs; cases hs; omega
        · have := q3 j (by show j < i; omega) s hs
          have : s.size ≤ n := this
          omega
      · show IntKind.i64.wrap ((n : Int) + (ByteArray.size y : Int)) = ((n + ByteArray.size y : Nat) : Int)
        rw [w64 (by omega)]; omega
      · show IntKind.i64.wrap ((i : Int) + 1) = ((i + 1 : Nat) : Int)
        rw [w64 (by omega)]; omega
    · have h1 := of_decide_eq_false h1
      have h2 : (n : Int) ≤ 4000 := h2
      have hi : i = l.length := by
        apply Nat.le_antisymm q1
        apply Nat.le_of_not_lt; intro hc; exact h1 ⟨by omega, by omega⟩
      obtain ⟨j, hj⟩ := List.getElem?_of_mem hs
      have hjl := (List.getElem?_eq_some_iff.1 hj).1
      have := q3 j (by show j < i; omega) s hj
      have : s.size ≤ n := this
      omega
  · exact h.elim)
def l15 : List (FuncId × Con) := (35, textsCon) :: l13
theorem l15_ok : ConsOk Tryd.prog (look l15) := cons_cons l13_ok texts_ok
end Go.Cx
end
section
namespace Go.Cx
open Go Go.Sx Go.Proofs
set_option maxRecDepth 100000
set_option maxHeartbeats 0
theorem at_bt (s : ByteArray) (k : Nat) : ((s.get! k).toNat : Int) = bt s k := by
  unfold bt
  congr 1
  show (s.data[k]!).toNat = _
  rw [Array.getElem?_toList]
  by_cases h : k < s.data.size
  · rw [getElem!_pos s.data k h, Array.getElem?_eq_getElem h]; rfl
  · rw [getElem!_neg s.data k h, Array.getElem?_eq_none (by omega)]; rfl
theorem bt_app_lt (s t : ByteArray) {k : Nat} (h : k < s.size) : bt (s ++ t) k = bt s k := by
  unfold bt
  have e : (s ++ t).data.toList = s.data.toList ++ t.data.toList := by
    rw [ByteArray.data_append]; simp
  rw [e, List.getElem?_append_left (by simpa using h)]
theorem bt_app_one (s : ByteArray) {b : Int} (h0 : 0 ≤ b) (h1 : b < 256) : bt (s ++ strBytes [b]) s.size = b := by
  unfold bt
  have e : (s ++ strBytes [b]).data.toList = s.data.toList ++ [UInt8.ofNat b.toNat] := by
    rw [ByteArray.data_append]; simp [strBytes]
  rw [e, List.getElem?_append_right (by simp)]
  simp
  omega
/-- what Go's decoder tells, by bytes -/
def decN (n x0 x1 x2 x3 : Nat) : Nat × Nat :=
  if x0 < 0x80 then (x0, 1)
  else if x0 / 32 == 6 && (decide (1 < n) && x1 / 64 == 2) then
    (if x0 % 32 * 64 + x1 % 64 ≥ 0x80 then (x0 % 32 * 64 + x1 % 64, 2) else (Utf8.runeError, 1))
  else if x0 / 16 == 14 && (decide (1 < n) && x1 / 64 == 2) && (decide (2 < n) && x2 / 64 == 2) then
    (if decide (x0 % 16 * 4096 + x1 % 64 * 64 + x2 % 64 ≥ 0x800) && Utf8.valid ((x0 % 16 * 4096 + x1 % 64 * 64 + x2 % 64 : Nat) : Int) then (x0 % 16 * 4096 + x1 % 64 * 64 + x2 % 64, 3) else (Utf8.runeError, 1))
  else if x0 / 8 == 30 && (decide (1 < n) && x1 / 64 == 2) && (decide (2 < n) && x2 / 64 == 2) && (decide (3 < n) && x3 / 64 == 2) then
    (if decide (x0 % 8 * 262144 + x1 % 64 * 4096 + x2 % 64 * 64 + x3 % 64 ≥ 0x10000) && Utf8.valid ((x0 % 8 * 262144 + x1 % 64 * 4096 + x2 % 64 * 64 + x3 % 64 : Nat) : Int) then (x0 % 8 * 262144 + x1 % 64 * 4096 + x2 % 64 * 64 + x3 % 64, 4) else (Utf8.runeError, 1))
  else (Utf8.runeError, 1)
theorem bt_nat (s : ByteArray) (k : Nat) : (bt s k).toNat = (s.get! k).toNat := by rw [← at_bt]; simp
theorem decode_decN (s : ByteArray) : Utf8.decode s 0 = decN s.size (bt s 0).toNat (bt s 1).toNat (bt s 2).toNat (bt s 3).toNat := by
  rw [bt_nat, bt_nat, bt_nat, bt_nat]
  unfold Utf8.decode decN
  simp only [Nat.zero_add]
theorem dec2 {x0 x1 x2 x3 : Nat} (h0 : 194 ≤ x0) (h1 : x0 ≤ 223) (h2 : 128 ≤ x1) (h3 : x1 ≤ 191) : decN 2 x0 x1 x2 x3 = (x0 % 32 * 64 + x1 % 64, 2) := by
  unfold decN
  rw [if_neg (by omega), if_pos (by simp; omega), if_pos (by omega)]
theorem dec3 {x0 x1 x2 x3 : Nat} (h0 : 224 ≤ x0) (h1 : x0 ≤ 239) (h2 : 128 ≤ x1) (h3 : x1 ≤ 191) (h4 : x0 = 224 → 160 ≤ x1) (h5 : x0 = 237 → x1 ≤ 159) (h6 : 128 ≤ x2) (h7 : x2 ≤ 191) : decN 3 x0 x1 x2 x3 = (x0 % 16 * 4096 + x1 % 64 * 64 + x2 % 64, 3) := by
  unfold decN
  rw [if_neg (by omega), if_neg (by simp; omega), if_pos (by simp; omega), if_pos (by simp [Utf8.valid]; omega)]
theorem dec4 {x0 x1 x2 x3 : Nat} (h0 : 240 ≤ x0) (h1 : x0 ≤ 244) (h2 : 128 ≤ x1) (h3 : x1 ≤ 191) (h4 : x0 = 240 → 144 ≤ x1) (h5 : x0 = 244 → x1 ≤ 143) (h6 : 128 ≤ x2) (h7 : x2 ≤ 191) (h8 : 128 ≤ x3) (h9 : x3 ≤ 191) :
    decN 4 x0 x1 x2 x3 = (x0 % 8 * 262144 + x1 % 64 * 4096 + x2 % 64 * 64 + x3 % 64, 4) := by
  unfold decN
  rw [if_neg (by omega), if_neg (by simp; omega), if_neg (by simp; omega), if_pos (by simp; omega), if_pos (by simp [Utf8.valid]; omega)]
/-- a decoder that doesn't take all: what is not whole, or is no rune's -/
theorem dec_not {n x0 x1 x2 x3 : Nat} (hn : 2 ≤ n) (h : (decN n x0 x1 x2 x3).2 = n) : (n = 2 ∧ 194 ≤ x0 ∧ x0 ≤ 223 ∧ x1 / 64 = 2) ∨
    (n = 3 ∧ x0 / 16 = 14 ∧ x1 / 64 = 2 ∧ x2 / 64 = 2 ∧ (x0 = 224 → 160 ≤ x1) ∧ (x0 = 237 → x1 ≤ 159)) ∨
    (n = 4 ∧ 240 ≤ x0 ∧ x0 ≤ 244 ∧ x1 / 64 = 2 ∧ x2 / 64 = 2 ∧ x3 / 64 = 2 ∧ (x0 = 240 → 144 ≤ x1) ∧ (x0 = 244 → x1 ≤ 143)) := by
  unfold decN at h
  split at h
  · simp at h; omega
  · split at h
    · rename_i c1 c2
      simp at c2
      split at h
      · simp at h; omega
      · simp at h; omega
    · split at h
      · rename_i c1 c2 c3
        simp at c3
        split at h
        · rename_i c4
          simp [Utf8.valid] at c4 h; omega
        · simp at h; omega
      · split at h
        · rename_i c1 c2 c3 c4
          simp at c4
          split at h
          · rename_i c5
            simp [Utf8.valid] at c5 h; omega
          · simp at h; omega
        · simp at h; omega
end Go.Cx
end
section
namespace Go.Cx
open Go Go.Sx Go.Proofs
set_option maxRecDepth 100000
set_option maxHeartbeats 0
def rtNext : Lr := ⟨List Int × ByteArray, fun x => [.own 0, .s x.2], fun x => [ints x.1]⟩
def next0Con : Con := ⟨[.v, .v], fun ags M K => match ags, M with
  | [.val (.string part), .val (.int .u8 b)], [] => (part = ⟨#[]⟩ ∧ 0 ≤ b ∧ b < 256) ∧ ∀ l t, (l, t) = beginS b → K (.tup [.own 0, .s t]) [ints l]
  | _, _ => False⟩
def nextHd : Nat → List Nat := fun r => match r with | 5 => [4, 5] | 11 => [6, 7] | 13 => [5, 6, 7] | _ => []
def next0Cfg : Cfg := { cfg0 with rt := some rtNext, hd := nextHd }
theorem next0_vc (b : Int) (K : AV → List Blk → Prop) : (evFn (env l15) Tryd.f22 next0Cfg [.s ⟨#[]⟩, .int .u8 b] [] K) = (
  (decide (ByteArray.mk #[] = ByteArray.mk #[]) = true → (decide (b < (128 : Int)) = true → ∃ (x : List Int × ByteArray), [IntKind.i64.wrap b] = x.fst ∧ ByteArray.mk #[] =
  x.snd ∧ Leaf rtNext K x) ∧ (decide (b < (128 : Int)) = false → ∀ (r : Int), r = moreS b → (decide ((0 : Int) < r) = true → ∃ (x : List Int × ByteArray), [] = x.fst ∧
  strBytes [b] = x.snd ∧ Leaf rtNext K x) ∧ (decide ((0 : Int) < r) = false → ∃ (x : List Int × ByteArray), [(65533 : Int)] = x.fst ∧ ByteArray.mk #[] = x.snd ∧ Leaf rtNext
  K x))) ∧ (decide (ByteArray.mk #[] = ByteArray.mk #[]) = false → ((0 : Int) ≤ (0 : Int) ∧ (0 : Int) < (↑0 : Int)) ∧ ∀ (r : Bool), r = folS (bt (ByteArray.mk #[]) 0) (↑0 :
  Int) b → ((!r) = true → False) ∧ ((!r) = false → ((0 : Int) ≤ (0 : Int) ∧ (0 : Int) < (↑0 : Int)) ∧ ∀ (r : Int), r = moreS (bt (ByteArray.mk #[]) 0) → (decide ((↑0 : Int)
  < r) = true → 0 + (strBytes [b]).size ≤ 4611686018427387904 ∧ ∃ (x : List Int × ByteArray), [] = x.fst ∧ ByteArray.mk #[] ++ strBytes [b] = x.snd ∧ Leaf rtNext K x) ∧
  (decide ((↑0 : Int) < r) = false → ((0 : Int) ≤ (0 : Int) ∧ (0 : Int) < (↑0 : Int)) ∧ ((0 : Int) ≤ (↑0 : Int) ∧ (↑0 : Int) ≤ (↑64 : Int)) ∧ False)))) := by kernel_rfl

theorem next0_ok : ConOk Tryd.prog 22 next0Con := fn_ok (env_ok l15_ok) mixed Tryd.func22 rfl next0Con next0Cfg (by
  intro ags M K h
  unfold next0Con at h
  simp only at h
  split at h
  · rename_i part b
    obtain ⟨⟨rfl, p1, p2⟩, h⟩ := h
    show evFn (env l15) _ _ [.s ⟨#[]⟩, .int .u8 b] [] _
    rw [next0_vc]
    have hw : IntKind.i64.wrap b = b := w64 (by omega)
    have hpart : b ≥ 128 → (partS (strBytes [b]) = true ↔ 0 < moreS b) := by
      intro hb
      have e1 : (strBytes [b]).size = 1 := rfl
      have e2 : bt (strBytes [b]) 0 = b := by
        show (((UInt8.ofNat b.toNat).toNat : Nat) : Int) = b
        simp; omega
      have := more_need b 1 (by omega)
      unfold partS
      rw [decide_eq_true_iff, e1, e2]
      constructor
      · rintro ⟨_, q, _⟩; omega
      · intro q; exact ⟨by omega, by omega, fun h => by omega, fun h => by omega⟩
    refine ⟨fun _ => ⟨fun h1 => ⟨(_, _), rfl, rfl, h _ _ ?_⟩, fun h1 r hr => ⟨fun h2 => ⟨(_, _), rfl, rfl, h _ _ ?_⟩, fun h2 => ⟨(_, _), rfl, rfl, h _ _ ?_⟩⟩⟩, fun h1 => absurd h1 (by simp)⟩
    · have h1 := of_decide_eq_true h1
      rw [hw]; simp [beginS, h1]
    · have h1 := of_decide_eq_false h1
      have h2 := of_decide_eq_true h2
      rw [beginS, if_neg h1, if_pos ((hpart (by omega)).2 (by omega))]; rfl
    · have h1 := of_decide_eq_false h1
      have h2 := of_decide_eq_false h2
      rw [beginS, if_neg h1, if_neg (fun e => h2 (by have := (hpart (by omega)).1 e; omega))]
  · exact h.elim)
def l17 : List (FuncId × Con) := (22, next0Con) :: l15
theorem l17_ok : ConsOk Tryd.prog (look l17) := cons_cons l15_ok next0_ok
def nextCon : Con := ⟨[.v, .v], fun ags M K => match ags, M with
  | [.val (.string part), .val (.int .u8 b)], [] => ((part = ⟨#[]⟩ ∨ partS part = true) ∧ 0 ≤ b ∧ b < 256) ∧ ∀ l t, (l, t) = stepS part b → K (.tup [.own 0, .s t]) [ints l]
  | _, _ => False⟩
/-- the bits so far -/
def accS (part : ByteArray) : Nat → Int
  | 0 => 0
  | 1 => bt part 0 % 2 ^ (6 - part.size)
  | i + 1 => accS part i * 64 + bt part i % 64
def nextCfg (part : ByteArray) (b : Int) : Cfg := { cfg0 with rt := some rtNext, hd := nextHd, lp := (fun r => match r with | 15 => some { X := Nat, fr := fun x => [(0, .s part), (1, .int .u8 b), (8, .i part.size), (9, .i (accS part x)), (10, .i x)], M := fun _ => [], inv := fun x => 1 ≤ x ∧ x ≤ part.size, mu := fun x => part.size - x } | _ => none) }
theorem next_vc (part : ByteArray) (b : Int) (K : AV → List Blk → Prop) : (evFn (env l17) Tryd.f22 (nextCfg part b) [.s part, .int .u8 b] [] K) = (
  (decide (part = ByteArray.mk #[]) = true → (decide (b < (128 : Int)) = true → ∃ (x : List Int × ByteArray), [IntKind.i64.wrap b] = x.fst ∧ ByteArray.mk #[] = x.snd ∧ Leaf
  rtNext K x) ∧ (decide (b < (128 : Int)) = false → ∀ (r : Int), r = moreS b → (decide ((0 : Int) < r) = true → ∃ (x : List Int × ByteArray), [] = x.fst ∧ strBytes [b] =
  x.snd ∧ Leaf rtNext K x) ∧ (decide ((0 : Int) < r) = false → ∃ (x : List Int × ByteArray), [(65533 : Int)] = x.fst ∧ ByteArray.mk #[] = x.snd ∧ Leaf rtNext K x))) ∧
  (decide (part = ByteArray.mk #[]) = false → ((0 : Int) ≤ (0 : Int) ∧ (0 : Int) < (↑part.size : Int)) ∧ ∀ (r : Bool), r = folS (bt part 0) (↑part.size : Int) b → ((!r) =
  true → (ByteArray.mk #[] = ByteArray.mk #[] ∧ (0 : Int) ≤ b ∧ b < (256 : Int)) ∧ ∀ (l : List Int) (t : ByteArray), (l, t) = beginS b → (1 + l.length ≤ 140737488355328 ∧
  (1 + l.length) * 8 ≤ 140737488355328) ∧ ∃ (x : List Int × ByteArray), [(65533 : Int)] ++ l = x.fst ∧ t = x.snd ∧ Leaf rtNext K x) ∧ ((!r) = false → ((0 : Int) ≤ (0 : Int)
  ∧ (0 : Int) < (↑part.size : Int)) ∧ ∀ (r : Int), r = moreS (bt part 0) → (decide ((↑part.size : Int) < r) = true → part.size + (strBytes [b]).size ≤ 4611686018427387904 ∧
  ∃ (x : List Int × ByteArray), [] = x.fst ∧ part ++ strBytes [b] = x.snd ∧ Leaf rtNext K x) ∧ (decide ((↑part.size : Int) < r) = false → ((0 : Int) ≤ (0 : Int) ∧ (0 : Int)
  < (↑part.size : Int)) ∧ ((0 : Int) ≤ (↑part.size : Int) ∧ (↑part.size : Int) ≤ (↑64 : Int)) ∧ ∃ (x0 : Nat), (1 ≤ x0 ∧ x0 ≤ part.size) ∧ part = part ∧ b = b ∧ (↑part.size
  : Int) = (↑part.size : Int) ∧ bits BinOp.and IntKind.i64 (IntKind.i64.wrap (bt part 0)) ((63 : Int) / (2 : Int) ^ (↑part.size : Int).toNat) = accS part x0 ∧ (1 : Int) =
  (↑x0 : Int) ∧ ∀ (x : Nat), 1 ≤ x ∧ x ≤ part.size → (decide ((↑x : Int) < (↑part.size : Int)) = true → ((0 : Int) ≤ (6 : Int) ∧ (6 : Int) ≤ (↑64 : Int)) ∧ ((0 : Int) ≤ (↑x
  : Int) ∧ (↑x : Int) < (↑part.size : Int)) ∧ ∃ (x' : Nat), ((1 ≤ x' ∧ x' ≤ part.size) ∧ part.size - x' < part.size - x) ∧ part = part ∧ b = b ∧ (↑part.size : Int) =
  (↑part.size : Int) ∧ bits BinOp.or IntKind.i64 (IntKind.i64.wrap (accS part x * (2 : Int) ^ 6)) (bits BinOp.and IntKind.i64 (IntKind.i64.wrap (bt part (↑x : Int).toNat))
  (63 : Int)) = accS part x' ∧ IntKind.i64.wrap ((↑x : Int) + (1 : Int)) = (↑x' : Int) ∧ True) ∧ (decide ((↑x : Int) < (↑part.size : Int)) = false → ((0 : Int) ≤ (6 : Int)
  ∧ (6 : Int) ≤ (↑64 : Int)) ∧ ∃ (x_1 : List Int × ByteArray), [bits BinOp.or IntKind.i64 (IntKind.i64.wrap (accS part x * (2 : Int) ^ 6)) (bits BinOp.and IntKind.i64
  (IntKind.i64.wrap b) (63 : Int))] = x_1.fst ∧ ByteArray.mk #[] = x_1.snd ∧ Leaf rtNext K x_1))))) := by kernel_rfl

theorem accS_1 (part : ByteArray) : accS part 1 = bt part 0 % 2 ^ (6 - part.size) := rfl
theorem accS_one (part : ByteArray) (hn : part.size = 1 ∨ part.size = 2 ∨ part.size = 3) : 0 ≤ accS part 1 ∧ accS part 1 < 32 := by
  rw [accS_1]
  have := (bt_range part 0)
  have e1 : (2 : Int) ^ (6 - 1) = 32 := by decide
  have e2 : (2 : Int) ^ (6 - 2) = 16 := by decide
  have e3 : (2 : Int) ^ (6 - 3) = 8 := by decide
  rcases hn with h | h | h <;> rw [h] <;> omega
theorem accS_range (part : ByteArray) (hn : part.size = 1 ∨ part.size = 2 ∨ part.size = 3) : ∀ i, i ≤ 3 → 0 ≤ accS part i ∧ accS part i < 1048576
  | 0, _ => by simp [accS]
  | 1, _ => by
    have := accS_one part hn
    omega
  | 2, _ => by
    have := accS_one part hn
    have h2 := bt_range part 1
    show 0 ≤ accS part 1 * 64 + bt part 1 % 64 ∧ accS part 1 * 64 + bt part 1 % 64 < 1048576
    omega
  | 3, _ => by
    have := accS_one part hn
    have h2 := bt_range part 1
    have h3 := bt_range part 2
    show 0 ≤ (accS part 1 * 64 + bt part 1 % 64) * 64 + bt part 2 % 64 ∧ (accS part 1 * 64 + bt part 1 % 64) * 64 + bt part 2 % 64 < 1048576
    omega
  | i + 4, h => by omega
theorem or6 {x y : Int} (h0 : 0 ≤ x) (h1 : x < 1048576) (hy : 0 ≤ y) (hy2 : y < 256) : bits BinOp.or IntKind.i64 (IntKind.i64.wrap (x * 2 ^ 6)) (bits BinOp.and IntKind.i64 (IntKind.i64.wrap y) 63) = x * 64 + y % 64 := by
  have e1 : (x * 2 ^ 6 : Int) = x * 64 := by omega
  rw [w64 (by rw [e1]; omega), w64 (by omega)]
  have e2 := i64_and_mask y 6 (by omega)
  have e3 : ((2 : Int) ^ 6 - 1) = 63 := by decide
  have e4 : ((2 : Int) ^ 6) = 64 := by decide
  rw [e3, e4] at e2
  rw [e2]
  have := i64_or_add x (y % 64) 6 h0 (by omega) (by rw [e4]; omega) (by omega) (by rw [e4]; have : (2 : Int) ^ 62 = 4611686018427387904 := by decide
                                                                                   omega)
  rw [this, e4]
theorem next_ok : ConOk Tryd.prog 22 nextCon := fn_ok2 (env_ok l17_ok) mixed Tryd.func22 rfl nextCon (by
  intro ags M K h
  unfold nextCon at h
  simp only at h
  split at h
  · rename_i part b
    obtain ⟨⟨hp, p1, p2⟩, h⟩ := h
    refine ⟨nextCfg part b, ?_⟩
    show evFn (env l17) _ _ [.s part, .int .u8 b] [] _
    rw [next_vc]
    have hw : IntKind.i64.wrap b = b := w64 (by omega)
    have hpart : b ≥ 128 → (partS (strBytes [b]) = true ↔ 0 < moreS b) := by
      intro hb
      have e1 : (strBytes [b]).size = 1 := rfl
      have e2 : bt (strBytes [b]) 0 = b := by
        show (((UInt8.ofNat b.toNat).toNat : Nat) : Int) = b
        simp; omega
      have := more_need b 1 (by omega)
      unfold partS
      rw [decide_eq_true_iff, e1, e2]
      constructor
      · rintro ⟨_, q, _⟩; omega
      · intro q; exact ⟨by omega, by omega, fun h => by omega, fun h => by omega⟩
    refine ⟨fun h0 => ?_, fun h0 => ?_⟩
    · have h0 := of_decide_eq_true h0
      refine ⟨fun h1 => ⟨(_, _), rfl, rfl, h _ _ ?_⟩, fun h1 r hr => ⟨fun h2 => ⟨(_, _), rfl, rfl, h _ _ ?_⟩, fun h2 => ⟨(_, _), rfl, rfl, h _ _ ?_⟩⟩⟩
      · have h1 := of_decide_eq_true h1
        rw [hw, stepS, if_pos h0]; simp [beginS, h1]
      · have h1 := of_decide_eq_false h1
        have h2 := of_decide_eq_true h2
        rw [stepS, if_pos h0, beginS, if_neg h1, if_pos ((hpart (by omega)).2 (by omega))]; rfl
      · have h1 := of_decide_eq_false h1
        have h2 := of_decide_eq_false h2
        rw [stepS, if_pos h0, beginS, if_neg h1, if_neg (fun e => h2 (by have := (hpart (by omega)).1 e; omega))]
    · have h0 := of_decide_eq_false h0
      have hp : partS part = true := hp.resolve_left h0
      have hps := hp
      unfold partS at hps
      obtain ⟨n0, nd, ns, nr⟩ := of_decide_eq_true hps
      have h4 := need_le (bt part 0)
      have hn : part.size = 1 ∨ part.size = 2 ∨ part.size = 3 := by omega
      have hb0 : 194 ≤ bt part 0 ∧ (bt part 0 ≤ 223 → needS (bt part 0) = 2) ∧ (224 ≤ bt part 0 → bt part 0 ≤ 239 → needS (bt part 0) = 3) ∧ (240 ≤ bt part 0 → bt part 0 ≤ 244 ∧ needS (bt part 0) = 4) := by
        unfold needS at nd ⊢
        repeat' split at nd
        all_goals (refine ⟨by omega, fun h => ?_, fun h h' => ?_, fun h => ?_⟩)
        all_goals (repeat' split)
        all_goals omega
      have r0 := bt_range part 0
      have r1 := bt_range part 1
      have r2 := bt_range part 2
      have hsz : (part ++ strBytes [b]).size = part.size + 1 := by rw [ByteArray.size_append]; rfl
      have g0 : bt (part ++ strBytes [b]) 0 = bt part 0 := bt_app_lt _ _ (by omega)
      have gn : bt (part ++ strBytes [b]) part.size = b := bt_app_one _ p1 p2
      have gl : ∀ k, k < part.size → bt (part ++ strBytes [b]) k = bt part k := fun k hk => bt_app_lt _ _ hk
      have hdec : Lib.decodeGo (part ++ strBytes [b]) = decN (part.size + 1) (bt part 0).toNat (bt (part ++ strBytes [b]) 1).toNat (bt (part ++ strBytes [b]) 2).toNat (bt (part ++ strBytes [b]) 3).toNat := by
        unfold Lib.decodeGo
        rw [if_neg (by omega), decode_decN, hsz, g0]
      refine ⟨⟨by omega, by omega⟩, fun r hr => ⟨fun h1 => ?_, fun h1 => ⟨⟨by omega, by omega⟩, fun q hq => ⟨fun h2 => ?_, fun h2 => ?_⟩⟩⟩⟩
      · -- it can't follow
        have hf : folS (bt part 0) part.size b = false := by rw [← hr]; simpa using h1
        refine ⟨⟨rfl, p1, p2⟩, fun l t e => ⟨?_, (_, _), rfl, rfl, h _ _ ?_⟩⟩
        · have := (beginS_len b).1
          rw [← e] at this
          have : l.length ≤ 1 := this
          omega
        · have hnp : ¬ partS (part ++ strBytes [b]) = true := by
            intro hc
            unfold partS at hc
            obtain ⟨_, c2, c3, c4⟩ := of_decide_eq_true hc
            rw [hsz, g0] at c2
            rw [hsz] at c3 c4
            rcases hn with hn | hn | hn
            · rw [hn] at gn hf
              have := c3 (by omega)
              rw [g0, gn] at this
              simp [folS, this] at hf
            · rw [hn] at gn hf
              have := c4 (by omega)
              rw [gn] at this
              simp [folS] at hf
              omega
            · omega
          have hnd : ¬ ((Lib.decodeGo (part ++ strBytes [b])).2 : Int) = (part ++ strBytes [b]).size := by
            intro hc
            rw [hdec, hsz] at hc
            have hc' := dec_not (by omega) (by omega : (decN (part.size + 1) (bt part 0).toNat (bt (part ++ strBytes [b]) 1).toNat (bt (part ++ strBytes [b]) 2).toNat (bt (part ++ strBytes [b]) 3).toNat).2 = part.size + 1)
            rcases hn with hn | hn | hn
            · rw [hn] at gn hf hc'
              rw [gn] at hc'
              simp [folS, secondS] at hf
              omega
            · rw [hn] at gn hf hc'
              rw [gn] at hc'
              simp [folS] at hf
              omega
            · rw [hn] at gn hf hc'
              rw [gn] at hc'
              simp [folS] at hf
              omega
          rw [stepS, if_neg h0, if_neg hnp, if_neg hnd, ← e]; rfl
      · -- it goes on
        have hf : folS (bt part 0) part.size b = true := by rw [← hr]; simpa using h1
        have h2 := of_decide_eq_true h2
        have hm := (more_need (bt part 0) (part.size + 1) (by omega)).1 (by omega)
        refine ⟨by have : (strBytes [b]).size = 1 := rfl
                   omega, (_, _), rfl, rfl, h _ _ ?_⟩
        have hpp : partS (part ++ strBytes [b]) = true := by
          unfold partS
          apply decide_eq_true
          rw [hsz, g0]
          refine ⟨by omega, by omega, fun c => ?_, fun c => ?_⟩
          · by_cases e : part.size = 1
            · rw [e] at gn hf
              rw [gn]; simpa [folS] using hf
            · rw [gl 1 (by omega)]; exact ns (by omega)
          · by_cases e : part.size = 2
            · rw [e] at gn hf
              rw [gn]; simpa [folS] using hf
            · rw [gl 2 (by omega)]; exact nr (by omega)
        rw [stepS, if_neg h0, if_pos hpp]
      · -- it ends a rune
        have hf : folS (bt part 0) part.size b = true := by rw [← hr]; simpa using h1
        have h2 := of_decide_eq_false h2
        have hmn : (part.size : Int) + 1 = needS (bt part 0) := by
          have a := (more_need (bt part 0) part.size (by omega)).2 nd
          have c : ¬ (part.size : Int) + 1 < needS (bt part 0) := fun c => by
            have := (more_need (bt part 0) (part.size + 1) (by omega)).2 c
            omega
          omega
        refine ⟨⟨by omega, by omega⟩, ⟨by omega, by omega⟩, 1, ⟨by omega, by omega⟩, rfl, rfl, rfl, ?_, rfl, ?_⟩
        · rw [w64 (by omega), Int.toNat_natCast]
          rw [accS_1]
          rcases hn with hn | hn | hn <;> rw [hn]
          · exact i64_and_mask (bt part 0) 5 (by omega)
          · exact i64_and_mask (bt part 0) 4 (by omega)
          · exact i64_and_mask (bt part 0) 3 (by omega)
        · rintro x ⟨x1, x2⟩
          have ha := accS_range part hn x (by omega)
          refine ⟨fun h3 => ⟨⟨by omega, by omega⟩, ⟨by omega, by have := of_decide_eq_true h3; omega⟩, x + 1, ⟨⟨by omega, by have := of_decide_eq_true h3; omega⟩, by have := of_decide_eq_true h3; omega⟩, rfl, rfl, rfl, ?_, ?_, trivial⟩, fun h3 => ⟨⟨by omega, by omega⟩, (_, _), rfl, rfl, h _ _ ?_⟩⟩
          · rw [Int.toNat_natCast, or6 ha.1 ha.2 (bt_range part x).1 (bt_range part x).2]
            obtain ⟨y, rfl⟩ : ∃ y, x = y + 1 := ⟨x - 1, by omega⟩
            rfl
          · rw [w64 (by omega)]; omega
          · have hx : x = part.size := by have := of_decide_eq_false h3; omega
            subst hx
            rw [or6 ha.1 ha.2 p1 p2]
            have hnp : ¬ partS (part ++ strBytes [b]) = true := by
              intro hc
              unfold partS at hc
              obtain ⟨_, c2, _⟩ := of_decide_eq_true hc
              rw [hsz, g0] at c2
              omega
            have key : Lib.decodeGo (part ++ strBytes [b]) = ((accS part part.size * 64 + b % 64).toNat, part.size + 1) := by
              rw [hdec]
              rcases hn with hn | hn | hn
              · rw [hn] at gn hf hmn
                rw [hn, gn]
                simp [folS, secondS] at hf
                rw [show 1 + 1 = 2 from rfl, dec2 (by omega) (by omega) (by omega) (by omega)]
                simp only [accS, hn, Prod.mk.injEq, and_true]
                omega
              · have hs1 := ns (by omega)
                rw [hn] at gn hf hmn
                rw [hn, gn, gl 1 (by omega)]
                simp [folS] at hf
                simp [secondS] at hs1
                rw [show 2 + 1 = 3 from rfl, dec3 (by omega) (by omega) (by omega) (by omega) (by omega) (by omega) (by omega) (by omega)]
                simp only [accS, hn, Prod.mk.injEq, and_true]
                omega
              · have hs1 := ns (by omega)
                have hs2 := nr (by omega)
                rw [hn] at gn hf hmn
                rw [hn, gn, gl 1 (by omega), gl 2 (by omega)]
                simp [folS] at hf
                simp [secondS] at hs1
                rw [show 3 + 1 = 4 from rfl, dec4 (by omega) (by omega) (by omega) (by omega) (by omega) (by omega) (by omega) (by omega) (by omega) (by omega)]
                simp only [accS, hn, Prod.mk.injEq, and_true]
                omega
            rw [stepS, if_neg h0, if_neg hnp, key, hsz, if_pos rfl]
            simp only [Prod.mk.injEq, List.cons.injEq, and_true]
            omega
  · exact h.elim)
def l18 : List (FuncId × Con) := (22, nextCon) :: l15
theorem l18_ok : ConsOk Tryd.prog (look l18) := cons_cons l15_ok next_ok
end Go.Cx
end
section
namespace Go.Cx
open Go Go.Sx Go.Proofs
set_option maxRecDepth 100000
set_option maxHeartbeats 0
def numCon : Con := ⟨[.v], fun ags M K => match ags, M with
  | [.val (.int .i64 n)], [] => K (.i n) []
  | _, _ => False⟩
theorem num_vc (n : Int) (K : AV → List Blk → Prop) : (evFn (env l18) Tryd.f13 cfg0 [.i n] [] K) = (
  K (AV.val (Value.int IntKind.i64 n)) []) := by kernel_rfl

theorem num_ok : ConOk Tryd.prog 13 numCon := fn_ok (env_ok l18_ok) mixed Tryd.func13 rfl numCon cfg0 (by
  intro ags M K h
  unfold numCon at h
  simp only at h
  split at h
  · rename_i n
    show evFn (env l18) _ _ _ _ _
    rw [num_vc]; exact h
  · exact h.elim)
def n12 : List (FuncId × Con) := (13, numCon) :: l18
theorem n12_ok : ConsOk Tryd.prog (look n12) := cons_cons l18_ok num_ok
def numsCon : Con := ⟨[.o (.int .i64)], fun ags M K => match ags, M with
  | [.own 0], [.arr (.int .i64) xs] => xs.length ≤ 1000000000 ∧ ∀ ys, K (.tup []) [ints ys]
  | _, _ => False⟩
def numsCfg (n : Nat) : Cfg := { cfg0 with lp := (fun r => match r with | 1 => some { X := Nat × List Int, fr := fun x => [(0, .own 0), (2, .i x.1)], M := fun x => [ints x.2], inv := fun x => x.2.length = n ∧ x.1 ≤ n, mu := fun x => n - x.1 } | _ => none) }
theorem nums_vc (xs : List Int) (K : AV → List Blk → Prop) : (evFn (env n12) Tryd.f15 (numsCfg xs.length) [.own 0] [ints xs] K) = (
  ∃ (x0 : Nat × List Int), (x0.snd.length = xs.length ∧ x0.fst ≤ xs.length) ∧ xs = x0.snd ∧ (0 : Int) = (↑x0.fst : Int) ∧ ∀ (x : Nat × List Int), x.snd.length = xs.length ∧
  x.fst ≤ xs.length → (decide ((↑x.fst : Int) < (↑x.snd.length : Int)) = true → ((0 : Int) ≤ (↑x.fst : Int) ∧ (↑x.fst : Int) < (↑x.snd.length : Int)) ∧ (↑x.fst : Int).toNat
  < x.snd.length ∧ ∃ (x' : Nat × List Int), ((x'.snd.length = xs.length ∧ x'.fst ≤ xs.length) ∧ xs.length - x'.fst < xs.length - x.fst) ∧ x.snd.set (↑x.fst : Int).toNat
  (-99 : Int) = x'.snd ∧ IntKind.i64.wrap ((↑x.fst : Int) + (1 : Int)) = (↑x'.fst : Int) ∧ True) ∧ (decide ((↑x.fst : Int) < (↑x.snd.length : Int)) = false → K (AV.tup [])
  [Blk.arr (Kd.int IntKind.i64) x.snd])) := by kernel_rfl

theorem nums_ok : ConOk Tryd.prog 15 numsCon := fn_ok2 (env_ok n12_ok) mixed Tryd.func15 rfl numsCon (by
  intro ags M K h
  unfold numsCon at h
  simp only at h
  split at h
  · rename_i xs
    refine ⟨numsCfg xs.length, ?_⟩
    show evFn (env n12) _ _ [.own 0] [ints xs] _
    rw [nums_vc]
    obtain ⟨hlen, h⟩ := h
    refine ⟨(0, xs), ⟨rfl, Nat.zero_le _⟩, rfl, rfl, ?_⟩
    rintro ⟨i, ys⟩ ⟨q1, q2⟩
    have q1 : ys.length = xs.length := q1
    have q2 : i ≤ xs.length := q2
    refine ⟨fun h1 => ?_, fun h1 => h _⟩
    have h1 : (i : Int) < ys.length := of_decide_eq_true h1
    refine ⟨⟨Int.natCast_nonneg i, h1⟩, by rw [Int.toNat_natCast]; show i < ys.length; omega, ⟨(i + 1, ys.set i (-99)), ⟨⟨by show (ys.set i (-99)).length = xs.length; rw [List.length_set]; exact q1, by show i + 1 ≤ xs.length; omega⟩, by show xs.length - (i + 1) < xs.length - i; omega⟩, by rw [Int.toNat_natCast], ?_, trivial⟩⟩
    show IntKind.i64.wrap ((i : Int) + 1) = ((i + 1 : Nat) : Int)
    rw [w64 (by omega)]; omega
  · exact h.elim)
def n14 : List (FuncId × Con) := (15, numsCon) :: n12
theorem n14_ok : ConsOk Tryd.prog (look n14) := cons_cons n12_ok nums_ok
def heavyCon : Con := ⟨[.g [some .str]], fun ags M K => match ags, M with
  | [.agg [.lt .str l]], [] => (l.length ≤ 140737488351232 ∧ ∀ s ∈ (l : List ByteArray), s.size ≤ 140737488351232) ∧ ∀ r : Bool, (r = false → ∀ s ∈ (l : List ByteArray), s.size ≤ 4000) → K (.b r) []
  | _, _ => False⟩
def heavyCfg : Cfg := { cfg0 with rt := some rtB }
theorem heavy_vc (l : List ByteArray) (K : AV → List Blk → Prop) : (evFn (env n14) Tryd.f9 heavyCfg [.agg [.lt .str l]] [] K) = (
  (l.length ≤ 140737488351232 ∧ ∀ (s : El Kd.str), s ∈ l → ByteArray.size s ≤ 140737488351232) ∧ ∀ (r : Int), (0 : Int) ≤ r → r ≤ (140737489399808 : Int) → (r ≤ (4000 :
  Int) → ∀ (s : El Kd.str), s ∈ l → ByteArray.size s ≤ 4000) → ∃ (x : Bool), decide ((4000 : Int) < r) = x ∧ Leaf rtB K x) := by kernel_rfl

theorem heavy_ok : ConOk Tryd.prog 9 heavyCon := fn_ok (env_ok n14_ok) mixed Tryd.func9 rfl heavyCon heavyCfg (by
  intro ags M K h
  unfold heavyCon at h
  simp only at h
  split at h
  · rename_i l
    show evFn (env n14) _ _ [.agg [.lt .str l]] [] _
    rw [heavy_vc]
    obtain ⟨hp, h⟩ := h
    refine ⟨hp, fun r h0 h1 h2 => ⟨_, rfl, h _ fun h3 => h2 ?_⟩⟩
    have h3 := of_decide_eq_false h3
    omega
  · exact h.elim)
def n16 : List (FuncId × Con) := (9, heavyCon) :: n14
theorem n16_ok : ConsOk Tryd.prog (look n16) := cons_cons n14_ok heavy_ok
def n17 : List (FuncId × Con) := (10, allCon) :: n16
theorem n17_ok : ConsOk Tryd.prog (look n17) := cons_cons n16_ok all_ok
end Go.Cx
end
section
namespace Go.Cx
open Go Go.Sx Go.Proofs
set_option maxRecDepth 100000
set_option maxHeartbeats 0
def refAllCon : Con := ⟨[.v, .v], fun ags M K => match ags, M with
  | [.val (.string part), .val (.string s)], [] => ((part = ⟨#[]⟩ ∨ partS part = true) ∧ s.size ≤ 900000) ∧ ∀ l t, (l, t) = runS ([], part) (bytesL s) → K (.tup [.own 0, .s t]) [ints l]
  | _, _ => False⟩
def refAllCfg (part s : ByteArray) : Cfg := { cfg0 with rt := some rtNext, lp := (fun r => match r with | 3 => some { X := Nat × List Int × ByteArray, fr := fun x => [(0, .s x.2.2), (1, .s s), (6, .own 0), (7, .i x.1)], M := fun x => [ints x.2.1], inv := fun x => x.1 ≤ s.size ∧ runS x.2 ((bytesL s).drop x.1) = runS ([], part) (bytesL s) ∧ x.2.1.length ≤ 2 * x.1 ∧ (x.2.2 = ⟨#[]⟩ ∨ partS x.2.2 = true), mu := fun x => s.size - x.1 } | _ => none) }
theorem refAll_vc (part : ByteArray) (s : ByteArray) (K : AV → List Blk → Prop) : (evFn (env n17) Tryd.f12 (refAllCfg part s) [.s part, .s s] [] K) = (
  ∃ (x0 : Nat × List Int × ByteArray), (x0.fst ≤ s.size ∧ runS x0.snd (List.drop x0.fst (bytesL s)) = runS ([], part) (bytesL s) ∧ x0.snd.fst.length ≤ 2 * x0.fst ∧
  (x0.snd.snd = ByteArray.mk #[] ∨ partS x0.snd.snd = true)) ∧ [] = x0.snd.fst ∧ part = x0.snd.snd ∧ s = s ∧ (0 : Int) = (↑x0.fst : Int) ∧ ∀ (x : Nat × List Int ×
  ByteArray), x.fst ≤ s.size ∧ runS x.snd (List.drop x.fst (bytesL s)) = runS ([], part) (bytesL s) ∧ x.snd.fst.length ≤ 2 * x.fst ∧ (x.snd.snd = ByteArray.mk #[] ∨ partS
  x.snd.snd = true) → (decide ((↑x.fst : Int) < (↑s.size : Int)) = true → ((0 : Int) ≤ (↑x.fst : Int) ∧ (↑x.fst : Int) < (↑s.size : Int)) ∧ ((x.snd.snd = ByteArray.mk #[] ∨
  partS x.snd.snd = true) ∧ (0 : Int) ≤ bt s (↑x.fst : Int).toNat ∧ bt s (↑x.fst : Int).toNat < (256 : Int)) ∧ ∀ (l : List Int) (t : ByteArray), (l, t) = stepS x.snd.snd
  (bt s (↑x.fst : Int).toNat) → (x.snd.fst.length + l.length ≤ 140737488355328 ∧ (x.snd.fst.length + l.length) * 8 ≤ 140737488355328) ∧ ∃ (x' : Nat × List Int × ByteArray),
  ((x'.fst ≤ s.size ∧ runS x'.snd (List.drop x'.fst (bytesL s)) = runS ([], part) (bytesL s) ∧ x'.snd.fst.length ≤ 2 * x'.fst ∧ (x'.snd.snd = ByteArray.mk #[] ∨ partS
  x'.snd.snd = true)) ∧ s.size - x'.fst < s.size - x.fst) ∧ x.snd.fst ++ l = x'.snd.fst ∧ t = x'.snd.snd ∧ s = s ∧ IntKind.i64.wrap ((↑x.fst : Int) + (1 : Int)) = (↑x'.fst
  : Int) ∧ True) ∧ (decide ((↑x.fst : Int) < (↑s.size : Int)) = false → ∃ (x_1 : List Int × ByteArray), x.snd.fst = x_1.fst ∧ x.snd.snd = x_1.snd ∧ Leaf rtNext K x_1)) := by kernel_rfl

theorem refAll_ok : ConOk Tryd.prog 12 refAllCon := fn_ok2 (env_ok n17_ok) mixed Tryd.func12 rfl refAllCon (by
  intro ags M K h
  unfold refAllCon at h
  simp only at h
  split at h
  · rename_i part s
    refine ⟨refAllCfg part s, ?_⟩
    show evFn (env n17) _ _ [.s part, .s s] [] _
    rw [refAll_vc]
    obtain ⟨⟨p1, p2⟩, h⟩ := h
    refine ⟨(0, [], part), ⟨Nat.zero_le _, rfl, Nat.zero_le _, p1⟩, rfl, rfl, rfl, rfl, ?_⟩
    rintro ⟨i, xs, t⟩ ⟨q1, q2, q3, q4⟩
    simp only at q1 q2 q3 q4
    refine ⟨fun h2 => ?_, fun h2 => ⟨(xs, t), rfl, rfl, h _ _ ?_⟩⟩
    · have h2 : (i : Int) < s.size := of_decide_eq_true h2
      have hi : i < s.size := by omega
      rw [Int.toNat_natCast]
      have hr := bt_range s i
      refine ⟨⟨Int.natCast_nonneg i, h2⟩, ⟨q4, hr.1, hr.2⟩, fun l t' e => ⟨⟨?_, ?_⟩, (i + 1, xs ++ l, t'), ⟨⟨?_, ?_, ?_, ?_⟩, ?_⟩, rfl, rfl, rfl, ?_, trivial⟩⟩
      · have := (stepS_len t (bt s i)).1
        rw [← e] at this
        have this : l.length ≤ 2 := this
        show xs.length + l.length ≤ 140737488355328
        omega
      · have := (stepS_len t (bt s i)).1
        rw [← e] at this
        have this : l.length ≤ 2 := this
        show (xs.length + l.length) * 8 ≤ 140737488355328
        omega
      · show i + 1 ≤ s.size; omega
      · show runS (xs ++ l, t') ((bytesL s).drop (i + 1)) = _
        rw [← q2, drop_bytes hi, runS]
        rw [← e]
      · show (xs ++ l).length ≤ 2 * (i + 1)
        have := (stepS_len t (bt s i)).1
        rw [← e] at this
        have this : l.length ≤ 2 := this
        rw [List.length_append]; omega
      · have := stepS_may t (bt s i)
        rw [← e] at this; exact this
      · show s.size - (i + 1) < s.size - i; omega
      · show IntKind.i64.wrap ((i : Int) + 1) = ((i + 1 : Nat) : Int)
        rw [w64 (by omega)]; omega
    · have h2 : ¬ (i : Int) < s.size := of_decide_eq_false h2
      have hi : i = s.size := by omega
      subst hi
      rw [List.drop_of_length_le (by rw [bytesL_len]; exact Nat.le_refl _)] at q2
      exact q2
  · exact h.elim)
def l19 : List (FuncId × Con) := (12, refAllCon) :: n17
theorem l19_ok : ConsOk Tryd.prog (look l19) := cons_cons n17_ok refAll_ok
def wakesCon : Con := ⟨[], fun ags M K => match ags, M with
  | [], [] => K (.b true) []
  | _, _ => False⟩
def wakesCfg : Cfg := { cfg0 with rt := some rtB, jn := fun _ => none }
theorem wakes_vc (K : AV → List Blk → Prop) : (evFn (env l19) Tryd.f16 wakesCfg [] [] K) = (
  (2 ≤ 900000 ∧ 0 ≤ 10000) ∧ ∀ (l : List Int) (t : ByteArray) (e : Int), (l, t, e) = allP (ByteArray.mk #[]) (ByteArray.mk #[(195 : UInt8), (169 : UInt8)]) → (decide (e =
  (0 : Int)) = true → (decide (t = ByteArray.mk #[]) = true → l.length ≤ 4611686018427387904 ∧ ∀ (r : Bool), r = decide (l = [(233 : Int)]) → ∃ (x : Bool), r = x ∧ Leaf rtB
  K x) ∧ (decide (t = ByteArray.mk #[]) = false → ∃ (x : Bool), x = false ∧ Leaf rtB K x)) ∧ (decide (e = (0 : Int)) = false → ∃ (x : Bool), x = false ∧ Leaf rtB K x)) := by kernel_rfl

theorem wakes_val : allP (ByteArray.mk #[]) (ByteArray.mk #[(195 : UInt8), (169 : UInt8)]) = ([233], ⟨#[]⟩, 0) := by kernel_rfl
theorem wakes_ok : ConOk Tryd.prog 16 wakesCon := fn_ok (env_ok l19_ok) mixed Tryd.func16 rfl wakesCon wakesCfg (by
  intro ags M K h
  unfold wakesCon at h
  simp only at h
  split at h
  · show evFn (env l19) _ _ [] [] _
    rw [wakes_vc]
    refine ⟨⟨by omega, by omega⟩, fun l t e he => ?_⟩
    rw [wakes_val] at he
    obtain ⟨rfl, rfl, rfl⟩ : l = [233] ∧ t = ⟨#[]⟩ ∧ e = 0 := by
      simp only [Prod.mk.injEq] at he; exact he
    refine ⟨fun _ => ⟨fun _ => ⟨by show 1 ≤ 4611686018427387904; omega, fun r hr => ⟨true, ?_, h⟩⟩, fun h2 => ?_⟩, fun h1 => ?_⟩
    · rw [hr]; rfl
    · simp at h2
    · simp at h1
  · exact h.elim)
def l20 : List (FuncId × Con) := (16, wakesCon) :: l19
theorem l20_ok : ConsOk Tryd.prog (look l20) := cons_cons l19_ok wakes_ok
def utfAllCon : Con := ⟨[.v], fun ags M K => match ags, M with
  | [.agg [.lt .str l]], [] => (l.length ≤ 140737488351232 ∧ ∀ s ∈ (l : List ByteArray), s.size ≤ 140737488351232) ∧ K (.b true) []
  | _, _ => False⟩
def utfAllCfg (l : List ByteArray) : Cfg := { cfg0 with rt := some rtB, hd := (fun r => match r with | 9 => [10, 11, 12, 17, 18] | 15 => [10, 11, 12, 15, 16] | _ => []), jn := (fun r => match r with | 4 => some 21 | 7 => some 32 | 16 => some 84 | _ => none), lp := (fun r => match r with
  | 4 => some { X := Nat, fr := fun x => [(1, .ptr 0 0), (3, .i x)], M := fun _ => [.flat [.lt .str l]], inv := fun x => x ≤ l.length, mu := fun x => l.length - x }
  | 7 => some { X := Nat × Nat, fr := fun x => [(1, .ptr 0 0), (3, .i x.1), (4, .i x.2)], M := fun _ => [.flat [.lt .str l]], inv := fun _ => True, rel := fun x0 x => (x.1 < l.length ∧ x.2 ≤ l.length) ∧ x.1 = x0.1, mu := fun x => l.length - x.2 }
  | _ => none) }
theorem utfAll_vc (l : List ByteArray) (K : AV → List Blk → Prop) : (evFn (env l20) Tryd.f3 (utfAllCfg l) [.agg [.lt .str l]] [] K) = (
  (l.length ≤ 140737488351232 ∧ ∀ (s : El Kd.str), s ∈ l → ByteArray.size s ≤ 140737488351232) ∧ ∀ (r : Bool), (r = false → ∀ (s : El Kd.str), s ∈ l → ByteArray.size s ≤
  4000) → (r = true → ∃ (x : Bool), x = true ∧ Leaf rtB K x) ∧ (r = false → ∃ (x0 : Nat), x0 ≤ l.length ∧ l = l ∧ 0 = 0 ∧ (0 : Int) = (↑x0 : Int) ∧ ∀ (x : Nat), x ≤
  l.length → ∃ (c : Bool), ((decide ((↑x : Int) < (↑l.length : Int)) = true → Same [Blk.flat [AV.lt Kd.str l]] [Blk.flat [AV.lt Kd.str l]] ∧ decide ((↑x : Int) < (6 : Int))
  = c) ∧ (decide ((↑x : Int) < (↑l.length : Int)) = false → Same [Blk.flat [AV.lt Kd.str l]] [Blk.flat [AV.lt Kd.str l]] ∧ false = c)) ∧ (c = true → ∃ (x0 : Nat × Nat),
  ((x0.fst < l.length ∧ x0.snd ≤ l.length) ∧ x0.fst = x0.fst) ∧ l = l ∧ 0 = 0 ∧ (↑x : Int) = (↑x0.fst : Int) ∧ (0 : Int) = (↑x0.snd : Int) ∧ ∀ (x_1 : Nat × Nat), (x_1.fst <
  l.length ∧ x_1.snd ≤ l.length) ∧ x_1.fst = x0.fst → ∃ (c : Bool), ((decide ((↑x_1.snd : Int) < (↑l.length : Int)) = true → Same [Blk.flat [AV.lt Kd.str l]] [Blk.flat
  [AV.lt Kd.str l]] ∧ decide ((↑x_1.snd : Int) < (6 : Int)) = c) ∧ (decide ((↑x_1.snd : Int) < (↑l.length : Int)) = false → Same [Blk.flat [AV.lt Kd.str l]] [Blk.flat
  [AV.lt Kd.str l]] ∧ false = c)) ∧ (c = true → ((0 : Int) ≤ (↑x_1.fst : Int) ∧ (↑x_1.fst : Int) < (↑l.length : Int)) ∧ ((0 : Int) ≤ (↑x_1.snd : Int) ∧ (↑x_1.snd : Int) <
  (↑l.length : Int)) ∧ (ByteArray.size (gt Kd.str l (↑x_1.snd : Int).toNat) ≤ 900000 ∧ ByteArray.size (gt Kd.str l (↑x_1.fst : Int).toNat) ≤ 10000) ∧ ∀ (l_1 : List Int) (t
  : ByteArray) (e : Int), (l_1, t, e) = allP (gt Kd.str l (↑x_1.fst : Int).toNat) (gt Kd.str l (↑x_1.snd : Int).toNat) → ((0 : Int) ≤ (↑x_1.fst : Int) ∧ (↑x_1.fst : Int) <
  (↑l.length : Int)) ∧ ∀ (r : Bool), r = decide (gt Kd.str l (↑x_1.fst : Int).toNat = ByteArray.mk #[] ∨ partS (gt Kd.str l (↑x_1.fst : Int).toNat) = true) → (r = true →
  ((0 : Int) ≤ (↑x_1.fst : Int) ∧ (↑x_1.fst : Int) < (↑l.length : Int)) ∧ ((0 : Int) ≤ (↑x_1.snd : Int) ∧ (↑x_1.snd : Int) < (↑l.length : Int)) ∧ ((gt Kd.str l (↑x_1.fst :
  Int).toNat = ByteArray.mk #[] ∨ partS (gt Kd.str l (↑x_1.fst : Int).toNat) = true) ∧ ByteArray.size (gt Kd.str l (↑x_1.snd : Int).toNat) ≤ 900000) ∧ ∀ (l_2 : List Int)
  (t_1 : ByteArray), (l_2, t_1) = runS ([], gt Kd.str l (↑x_1.fst : Int).toNat) (bytesL (gt Kd.str l (↑x_1.snd : Int).toNat)) → ∃ (c : Bool), (((!decide (e = (0 : Int))) =
  true → Same [Blk.flat [AV.lt Kd.str l], Blk.arr (Kd.int IntKind.i64) l_1, Blk.arr (Kd.int IntKind.i64) l_2] [Blk.flat [AV.lt Kd.str l], Blk.arr (Kd.int IntKind.i64) l_1,
  Blk.arr (Kd.int IntKind.i64) l_2] ∧ true = c) ∧ ((!decide (e = (0 : Int))) = false → ((!decide (t = t_1)) = true → Same [Blk.flat [AV.lt Kd.str l], Blk.arr (Kd.int
  IntKind.i64) l_1, Blk.arr (Kd.int IntKind.i64) l_2] [Blk.flat [AV.lt Kd.str l], Blk.arr (Kd.int IntKind.i64) l_1, Blk.arr (Kd.int IntKind.i64) l_2] ∧ true = c) ∧
  ((!decide (t = t_1)) = false → l_1.length ≤ 4611686018427387904 ∧ ∀ (r : Bool), r = decide (l_1 = l_2) → Same [Blk.flat [AV.lt Kd.str l], Blk.arr (Kd.int IntKind.i64)
  l_1, Blk.arr (Kd.int IntKind.i64) l_2] [Blk.flat [AV.lt Kd.str l], Blk.arr (Kd.int IntKind.i64) l_1, Blk.arr (Kd.int IntKind.i64) l_2] ∧ (!r) = c))) ∧ (c = true → ∃ (x :
  Bool), x = false ∧ Leaf rtB K x) ∧ (c = false → l_1.length ≤ 1000000000 ∧ ∀ (ys : List Int), ∃ (x' : Nat × Nat), (((x'.fst < l.length ∧ x'.snd ≤ l.length) ∧ x'.fst =
  x0.fst) ∧ l.length - x'.snd < l.length - x_1.snd) ∧ l = l ∧ 0 = 0 ∧ (↑x_1.fst : Int) = (↑x'.fst : Int) ∧ IntKind.i64.wrap ((↑x_1.snd : Int) + (1 : Int)) = (↑x'.snd : Int)
  ∧ True)) ∧ (r = false → ∃ (c : Bool), (((!decide (e = (1 : Int))) = true → Same [Blk.flat [AV.lt Kd.str l], Blk.arr (Kd.int IntKind.i64) l_1] [Blk.flat [AV.lt Kd.str l],
  Blk.arr (Kd.int IntKind.i64) l_1] ∧ true = c) ∧ ((!decide (e = (1 : Int))) = false → ((!decide (t = ByteArray.mk #[])) = true → Same [Blk.flat [AV.lt Kd.str l], Blk.arr
  (Kd.int IntKind.i64) l_1] [Blk.flat [AV.lt Kd.str l], Blk.arr (Kd.int IntKind.i64) l_1] ∧ true = c) ∧ ((!decide (t = ByteArray.mk #[])) = false → l_1.length ≤
  4611686018427387904 ∧ ∀ (r : Bool), r = decide (l_1 = []) → Same [Blk.flat [AV.lt Kd.str l], Blk.arr (Kd.int IntKind.i64) l_1] [Blk.flat [AV.lt Kd.str l], Blk.arr (Kd.int
  IntKind.i64) l_1] ∧ (!r) = c))) ∧ (c = true → ∃ (x : Bool), x = false ∧ Leaf rtB K x) ∧ (c = false → l_1.length ≤ 1000000000 ∧ ∀ (ys : List Int), ∃ (x' : Nat × Nat),
  (((x'.fst < l.length ∧ x'.snd ≤ l.length) ∧ x'.fst = x0.fst) ∧ l.length - x'.snd < l.length - x_1.snd) ∧ l = l ∧ 0 = 0 ∧ (↑x_1.fst : Int) = (↑x'.fst : Int) ∧
  IntKind.i64.wrap ((↑x_1.snd : Int) + (1 : Int)) = (↑x'.snd : Int) ∧ True))) ∧ (c = false → ∃ (x' : Nat), (x' ≤ l.length ∧ l.length - x' < l.length - x) ∧ l = l ∧ 0 = 0 ∧
  IntKind.i64.wrap ((↑x_1.fst : Int) + (1 : Int)) = (↑x' : Int) ∧ True)) ∧ (c = false → ∃ (x : Bool), true = x ∧ Leaf rtB K x))) := by kernel_rfl

theorem runS_len : ∀ (bs : List Int) (st : List Int × ByteArray), (runS st bs).1.length ≤ st.1.length + 2 * bs.length
  | [], st => by simp [runS]
  | b :: r, st => by
    rw [runS]
    have h1 := runS_len r (st.1 ++ (stepS st.2 b).1, (stepS st.2 b).2)
    have h2 := (stepS_len st.2 b).1
    simp only [List.length_append, List.length_cons] at h1 ⊢
    omega
theorem allP_may {y z : ByteArray} (h : y = ⟨#[]⟩ ∨ partS y = true) : allP y z = ((runS ([], y) (bytesL z)).1, (runS ([], y) (bytesL z)).2, 0) := by
  unfold allP
  rw [if_neg]
  rintro ⟨h1, h2⟩
  rcases h with h | h
  · exact h1 h
  · rw [h2] at h; cases h
theorem allP_not {y z : ByteArray} (h : ¬ (y = ⟨#[]⟩ ∨ partS y = true)) : allP y z = ([], ⟨#[]⟩, 1) := by
  unfold allP
  rw [if_pos]
  refine ⟨fun e => h (.inl e), ?_⟩
  cases hp : partS y with
  | true => exact absurd (.inr hp) h
  | false => rfl
theorem utfAll_ok : ConOk Tryd.prog 3 utfAllCon := fn_ok2 (env_ok l20_ok) mixed Tryd.func3 rfl utfAllCon (by
  intro ags M K h
  unfold utfAllCon at h
  simp only at h
  split at h
  · rename_i l
    refine ⟨utfAllCfg l, ?_⟩
    show evFn (env l20) _ _ [.agg [.lt .str l]] [] _
    rw [utfAll_vc]
    obtain ⟨hp, h⟩ := h
    refine ⟨hp, fun r hr => ⟨fun _ => ⟨true, rfl, h⟩, fun h1 => ?_⟩⟩
    have hs := hr h1
    refine ⟨0, Nat.zero_le _, rfl, rfl, rfl, fun x hx => ?_⟩
    refine ⟨decide ((x : Int) < l.length ∧ (x : Int) < 6), ⟨fun a => ⟨rfl, ?_⟩, fun a => ⟨rfl, ?_⟩⟩, fun a => ?_, fun _ => ⟨true, rfl, h⟩⟩
    · have a := of_decide_eq_true a
      simp [a]
    · have a := of_decide_eq_false a
      symm; apply decide_eq_false; rintro ⟨e, _⟩; exact a e
    obtain ⟨a1, a2⟩ := of_decide_eq_true a
    refine ⟨(x, 0), ⟨⟨by show x < l.length; omega, Nat.zero_le _⟩, rfl⟩, rfl, rfl, rfl, rfl, ?_⟩
    rintro ⟨i, k⟩ ⟨⟨b1, b2⟩, b3⟩
    have b3 : i = x := b3
    have b1 : i < l.length := b1
    have b2 : k ≤ l.length := b2
    refine ⟨decide ((k : Int) < l.length ∧ (k : Int) < 6), ⟨fun a => ⟨rfl, ?_⟩, fun a => ⟨rfl, ?_⟩⟩, fun a => ?_, fun a => ?_⟩
    · have a : (k : Int) < l.length := of_decide_eq_true a
      simp [a]
    · have a : ¬ (k : Int) < l.length := of_decide_eq_false a
      symm; apply decide_eq_false; rintro ⟨e, _⟩; exact a e
    · obtain ⟨c1, c2⟩ := of_decide_eq_true a
      have hi : (0 : Int) ≤ (i : Int) ∧ (i : Int) < l.length := ⟨by omega, by omega⟩
      have hk : (0 : Int) ≤ (k : Int) ∧ (k : Int) < l.length := ⟨by omega, c1⟩
      refine ⟨hi, hk, ?_⟩
      rw [Int.toNat_natCast, Int.toNat_natCast]
      have hy := gt_lt (k := .str) (xs := l) (i := i) (by omega)
      have hz := gt_lt (k := .str) (xs := l) (i := k) (by omega)
      generalize gt .str l i = y at hy ⊢
      generalize gt .str l k = z at hz ⊢
      have sy : ByteArray.size y ≤ 4000 := hs y (List.mem_of_getElem? hy)
      have sz : ByteArray.size z ≤ 4000 := hs z (List.mem_of_getElem? hz)
      refine ⟨⟨by omega, by omega⟩, fun l1 t e he => ⟨hi, fun r hr => ?_⟩⟩
      have hrun := runS_len (bytesL z) ([], y)
      have hb := bytesL_len z
      have step : (((i < l.length ∧ k + 1 ≤ l.length) ∧ i = x) ∧ l.length - (k + 1) < l.length - k) ∧ l = l ∧ (0 : Nat) = 0 ∧ (i : Int) = (i : Int) ∧ IntKind.i64.wrap ((k : Int) + 1) = ((k + 1 : Nat) : Int) ∧ True :=
        ⟨⟨⟨⟨b1, by omega⟩, b3⟩, by omega⟩, rfl, rfl, rfl, by rw [w64 (by omega)]; omega, trivial⟩
      refine ⟨fun hrt => ⟨hi, hk, ?_⟩, fun hrf => ?_⟩
      · have hm : y = ⟨#[]⟩ ∨ partS y = true := of_decide_eq_true (hr.symm.trans hrt)
        rw [allP_may hm] at he
        refine ⟨⟨hm, by omega⟩, fun l2 t2 he2 => ?_⟩
        have e1 : l1 = (runS ([], y) (bytesL z)).1 := congrArg (·.1) he
        have e2 : t = (runS ([], y) (bytesL z)).2 := congrArg (·.2.1) he
        have e3 : e = 0 := congrArg (·.2.2) he
        have e4 : l2 = (runS ([], y) (bytesL z)).1 := congrArg (·.1) he2
        have e5 : t2 = (runS ([], y) (bytesL z)).2 := congrArg (·.2) he2
        rw [← e1] at hrun e4
        rw [← e2] at e5
        subst e3 e4 e5
        have hlen : l2.length ≤ 2 * ByteArray.size z := by
          have : l2.length ≤ 0 + 2 * (bytesL z).length := hrun
          omega
        refine ⟨false, ⟨fun q => by simp at q, fun _ => ⟨fun q => by simp at q, fun _ => ⟨by omega, fun r hr => ⟨rfl, by rw [hr]; simp⟩⟩⟩⟩, (fun q => by cases q), fun _ => ⟨by omega, fun ys => ⟨(i, k + 1), step⟩⟩⟩
      · have hm : ¬ (y = ⟨#[]⟩ ∨ partS y = true) := of_decide_eq_false (hr.symm.trans hrf)
        rw [allP_not hm] at he
        have e1 : l1 = [] := congrArg (·.1) he
        have e2 : t = ⟨#[]⟩ := congrArg (·.2.1) he
        have e3 : e = 1 := congrArg (·.2.2) he
        subst e1 e2 e3
        refine ⟨false, ⟨fun q => by simp at q, fun _ => ⟨fun q => by simp at q, fun _ => ⟨Nat.zero_le _, fun r hr => ⟨rfl, by rw [hr]; simp⟩⟩⟩⟩, (fun q => by cases q), fun _ => ⟨Nat.zero_le _, fun ys => ⟨(i, k + 1), step⟩⟩⟩
    · refine ⟨i + 1, ⟨by omega, ?_⟩, rfl, rfl, ?_, trivial⟩
      · omega
      · show IntKind.i64.wrap ((i : Int) + 1) = ((i + 1 : Nat) : Int)
        rw [w64 (by omega)]; omega
  · exact h.elim)
end Go.Cx
end
