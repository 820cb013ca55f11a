/- A symbolic evaluator of functions, proved sound against the model. Conditions: none beyond those of the given statement. -/
import Derived.WalkKit
import Derived.Orders
import GoSem.Claims
import Derived.Shelf.Unicode.DecodeSlow
import Derived.Laws.StructEq
import Derived.Laws.Cover3
import Derived.Laws.Pointers
set_option linter.unusedVariables false
set_option linter.unusedSimpArgs false
section
namespace Go.Sx
open Go

/-! data -/
structure Attr where
  fg : Int
  bg : Int
  flags : Int
structure Cell where
  rune : Int
  comb : ByteArray
  wide : Int
  attr : Attr
structure Grid where
  rows : Int
  cols : Int
  cells : List Cell
structure Cur where
  row : Int
  col : Int
  wrap : Bool
  attr : Attr
  g0 : Int
  g1 : Int
  shift : Int
  origin : Bool
structure Scr where
  main : Grid
  other : Grid
  swapped : Bool
  cur : Cur
  saved : Cur
  savedToo : Cur
  top : Int
  bottom : Int
  tabs : List Bool
  modes : Int
  title : ByteArray
  last : Int
structure Parse where
  state : Int
  part : ByteArray
  params : List Int
  inter : ByteArray
  text : ByteArray
structure Ev where
  kind : Int
  rune : Int
  params : List Int
  inter : ByteArray
  text : ByteArray
structure Term where
  screen : Scr
  parse : Parse
structure Span where
  low : Int
  high : Int
/-- vt's own events -/
inductive Vev where
  | printed (r : Int)
  | control (c : Int)
  | sequence (csi : Bool) (last : Int) (params : List Int) (inter : ByteArray)
  | osc (s : ByteArray)

/-- kinds of elements -/
inductive Kd where
  | int (k : IntKind) | bool | str | cell | cur | ev | parse | term | span | vev (a b c d : TypeId)
  deriving DecidableEq
abbrev El : Kd → Type
  | .int _ => Int
  | .bool => Bool
  | .str => ByteArray
  | .cell => Cell
  | .cur => Cur
  | .ev => Ev
  | .parse => Parse
  | .term => Term
  | .span => Span
  | .vev _ _ _ _ => Vev

def dfl : (k : Kd) → El k
  | .int _ => (0 : Int)
  | .bool => false
  | .str => ⟨#[]⟩
  | .cell => ⟨0, ⟨#[]⟩, 0, ⟨0, 0, 0⟩⟩
  | .cur => ⟨0, 0, false, ⟨0, 0, 0⟩, 0, 0, 0, false⟩
  | .ev => ⟨0, 0, [], ⟨#[]⟩, ⟨#[]⟩⟩
  | .parse => ⟨0, ⟨#[]⟩, [], ⟨#[]⟩, ⟨#[]⟩⟩
  | .term => ⟨⟨⟨0, 0, []⟩, ⟨0, 0, []⟩, false, ⟨0, 0, false, ⟨0, 0, 0⟩, 0, 0, 0, false⟩, ⟨0, 0, false, ⟨0, 0, 0⟩, 0, 0, 0, false⟩, ⟨0, 0, false, ⟨0, 0, 0⟩, 0, 0, 0, false⟩, 0, 0, [], 0, ⟨#[]⟩, 0⟩, ⟨0, ⟨#[]⟩, [], ⟨#[]⟩, ⟨#[]⟩⟩⟩
  | .span => ⟨0, 0⟩
  | .vev _ _ _ _ => .printed 0
/-- an element of a list, by its place -/
def gt (k : Kd) (xs : List (El k)) (i : Nat) : El k := (xs[i]?).getD (dfl k)
theorem gt_some {k : Kd} {xs : List (El k)} {i : Nat} {y : El k} (h : xs[i]? = some y) : gt k xs i = y := by simp [gt, h]
theorem gt_lt {k : Kd} {xs : List (El k)} {i : Nat} (h : i < xs.length) : xs[i]? = some (gt k xs i) := by
  rw [gt, List.getElem?_eq_getElem h]; rfl

/-- abstract values -/
inductive AV where
  | val (v : Value)
  | tt
  | ff
  | sl (k : Kd) (xs : List (El k))
  | lt (k : Kd) (xs : List (El k))
  | rp (cs : List AV) (off : Nat)
  | ptr (n off : Nat)
  | ep (n sz i off : Nat)
  | es (n sz i len : Nat) (cap : Option Nat)
  | own (n : Nat)
  | agg (cs : List AV)
  | tup (vs : List AV)
  | ifc (T : TypeId) (a : AV)
  | top

abbrev AV.int (k : IntKind) (n : Int) : AV := .val (.int k n)
abbrev AV.i (n : Int) : AV := .val (.int .i64 n)
abbrev AV.b (x : Bool) : AV := .val (.bool x)
abbrev AV.s (x : ByteArray) : AV := .val (.string x)

def encAttr (a : Attr) : List AV := [.i a.fg, .i a.bg, .i a.flags]
def encCell (c : Cell) : List AV := [.i c.rune, .s c.comb, .i c.wide, .i c.attr.fg, .i c.attr.bg, .i c.attr.flags]
def encCur (c : Cur) : List AV := [.i c.row, .i c.col, .b c.wrap, .i c.attr.fg, .i c.attr.bg, .i c.attr.flags, .i c.g0, .i c.g1, .i c.shift, .b c.origin]
def encGrid (g : Grid) : List AV := [.i g.rows, .i g.cols, .sl .cell g.cells]
/-- a slice that is read, or kept -/
abbrev AV.sx (m : Bool) (k : Kd) (xs : List (El k)) : AV := match m with | true => .lt k xs | false => .sl k xs
def encScr (m : Bool) (s : Scr) : List AV :=
  [.i s.main.rows, .i s.main.cols, .sx m .cell s.main.cells, .i s.other.rows, .i s.other.cols, .sx m .cell s.other.cells, .b s.swapped,
   .i s.cur.row, .i s.cur.col, .b s.cur.wrap, .i s.cur.attr.fg, .i s.cur.attr.bg, .i s.cur.attr.flags, .i s.cur.g0, .i s.cur.g1, .i s.cur.shift, .b s.cur.origin,
   .i s.saved.row, .i s.saved.col, .b s.saved.wrap, .i s.saved.attr.fg, .i s.saved.attr.bg, .i s.saved.attr.flags, .i s.saved.g0, .i s.saved.g1, .i s.saved.shift, .b s.saved.origin,
   .i s.savedToo.row, .i s.savedToo.col, .b s.savedToo.wrap, .i s.savedToo.attr.fg, .i s.savedToo.attr.bg, .i s.savedToo.attr.flags, .i s.savedToo.g0, .i s.savedToo.g1, .i s.savedToo.shift, .b s.savedToo.origin,
   .i s.top, .i s.bottom, .sx m .bool s.tabs, .i s.modes, .s s.title, .i s.last]
def encParse (p : Parse) : List AV := [.i p.state, .s p.part, .sl (.int .i64) p.params, .s p.inter, .s p.text]
def encEv (e : Ev) : List AV := [.i e.kind, .i e.rune, .sl (.int .i64) e.params, .s e.inter, .s e.text]
def encTerm (t : Term) : List AV :=
  [.i t.screen.main.rows, .i t.screen.main.cols, .sl .cell t.screen.main.cells, .i t.screen.other.rows, .i t.screen.other.cols, .sl .cell t.screen.other.cells, .b t.screen.swapped,
   .i t.screen.cur.row, .i t.screen.cur.col, .b t.screen.cur.wrap, .i t.screen.cur.attr.fg, .i t.screen.cur.attr.bg, .i t.screen.cur.attr.flags, .i t.screen.cur.g0, .i t.screen.cur.g1, .i t.screen.cur.shift, .b t.screen.cur.origin,
   .i t.screen.saved.row, .i t.screen.saved.col, .b t.screen.saved.wrap, .i t.screen.saved.attr.fg, .i t.screen.saved.attr.bg, .i t.screen.saved.attr.flags, .i t.screen.saved.g0, .i t.screen.saved.g1, .i t.screen.saved.shift, .b t.screen.saved.origin,
   .i t.screen.savedToo.row, .i t.screen.savedToo.col, .b t.screen.savedToo.wrap, .i t.screen.savedToo.attr.fg, .i t.screen.savedToo.attr.bg, .i t.screen.savedToo.attr.flags, .i t.screen.savedToo.g0, .i t.screen.savedToo.g1, .i t.screen.savedToo.shift, .b t.screen.savedToo.origin,
   .i t.screen.top, .i t.screen.bottom, .sl .bool t.screen.tabs, .i t.screen.modes, .s t.screen.title, .i t.screen.last,
   .i t.parse.state, .s t.parse.part, .sl (.int .i64) t.parse.params, .s t.parse.inter, .s t.parse.text]

def encVev (a b c d : TypeId) : Vev → List AV
  | .printed r => [.ifc a (.i r)]
  | .control x => [.ifc b (.int .u8 x)]
  | .sequence csi last ps inter => [.ifc c (.agg [.b csi, .int .u8 last, .sl (.int .i64) ps, .s inter])]
  | .osc s => [.ifc d (.s s)]
def enc : (k : Kd) → El k → List AV
  | .int k, n => [.val (.int k n)]
  | .bool, b => [.val (.bool b)]
  | .str, s => [.val (.string s)]
  | .cell, c => encCell c
  | .cur, c => encCur c
  | .ev, e => encEv e
  | .parse, p => encParse p
  | .term, t => encTerm t
  | .span, s => [.i s.low, .i s.high]
  | .vev a b c d, v => encVev a b c d v
/-- cells of an element -/
def ksz : Kd → Nat
  | .int _ | .bool | .str | .vev _ _ _ _ => 1
  | .cell => 6
  | .cur => 10
  | .ev => 5
  | .parse => 5
  | .term => 48
  | .span => 2
theorem enc_len (k : Kd) (x : El k) : (enc k x).length = ksz k := by cases k <;> first | rfl | (cases x <;> rfl)

/-! memory that stays -/
abbrev PH := Nat → Option Obj
def PH.le (a b : PH) : Prop := ∀ n o, a n = some o → b n = some o
theorem PH.le.refl (a : PH) : a.le a := fun _ _ h => h
theorem PH.le.trans {a b c : PH} (h : a.le b) (g : b.le c) : a.le c := fun _ _ x => g _ _ (h _ _ x)
def cellAt (Hp : PH) (a : Addr) : Option Value :=
  match Hp a.block with
  | some (.cells c _ _) => if a.spot.isSome then none else c[a.off]?
  | _ => none
theorem cellAt.mono {Hp Hp' : PH} (h : Hp.le Hp') {a : Addr} {v : Value} (hc : cellAt Hp a = some v) : cellAt Hp' a = some v := by
  unfold cellAt at *
  cases hb : Hp a.block with
  | none => rw [hb] at hc; cases hc
  | some o => rw [hb] at hc; rw [h _ _ hb]; exact hc
/-- a cell that may be read: of what stays, or of what is lent -/
def rdAt (F Hp : PH) (a : Addr) (v : Value) : Prop := cellAt Hp a = some v ∨ cellAt F a = some v
theorem rdAt.mono {F Hp F' Hp' : PH} (hf : F.le F') (h : Hp.le Hp') {a : Addr} {v : Value} (hc : rdAt F Hp a v) : rdAt F' Hp' a v :=
  hc.imp (cellAt.mono h) (cellAt.mono hf)

mutual
inductive Rep (F Hp : PH) (hs : List Value) : AV → Value → Prop where
  | top (v : Value) : Rep F Hp hs .top v
  | val (v : Value) : Rep F Hp hs (.val v) v
  | tt : Rep F Hp hs .tt (.bool true)
  | ff : Rep F Hp hs .ff (.bool false)
  | sl (k : Kd) (xs : List (El k)) (A : Option Addr) (cap : Nat) (css : Nat → List Value)
      (hcap : xs.length ≤ cap) (hmax : cap ≤ maxLen) (hA : A = none → cap = 0)
      (hel : ∀ i x, xs[i]? = some x → Reps F Hp hs (enc k x) (css i))
      (hcell : ∀ i x j c, xs[i]? = some x → (css i)[j]? = some c → ∃ a, A = some a ∧ cellAt Hp (a.add (i * ksz k + j)) = some c) :
      Rep F Hp hs (.sl k xs) (.slice A xs.length cap)
  | lt (k : Kd) (xs : List (El k)) (A : Option Addr) (cap : Nat) (css : Nat → List Value)
      (hcap : xs.length ≤ cap) (hmax : True) (hA : A = none → cap = 0)
      (hel : ∀ i x, xs[i]? = some x → Reps F Hp hs (enc k x) (css i))
      (hcell : ∀ i x j c, xs[i]? = some x → (css i)[j]? = some c → ∃ a, A = some a ∧ rdAt F Hp (a.add (i * ksz k + j)) c) :
      Rep F Hp hs (.lt k xs) (.slice A xs.length cap)
  | rp (cs : List AV) (off : Nat) (a : Addr) (vs : List Value) (hr : Reps F Hp hs cs vs) 
      (hcell : ∀ j c, vs[j]? = some c → rdAt F Hp (a.add j) c) : Rep F Hp hs (.rp cs off) (.pointer (some (a.add off)))
  | ptr (n off : Nat) (b : Nat) (hn : hs[n]? = some (.pointer (some ⟨b, 0, none⟩))) : Rep F Hp hs (.ptr n off) (.pointer (some ⟨b, off, none⟩))
  | ep (n sz i off : Nat) (b l c : Nat) (hn : hs[n]? = some (.slice (some ⟨b, 0, none⟩) l c)) : Rep F Hp hs (.ep n sz i off) (.pointer (some ⟨b, i * sz + off, none⟩))
  | es (n sz i len : Nat) (cap : Option Nat) (b l c : Nat) (A : Option Addr) (c' : Nat) (hn : hs[n]? = some (.slice (some ⟨b, 0, none⟩) l c)) (hlc : len ≤ c')
      (hc : ∀ x, cap = some x → c' = x) (hA : 0 < c' → A = some ⟨b, i * sz, none⟩) (hA0 : A ≠ none) : Rep F Hp hs (.es n sz i len cap) (.slice A len c')
  | own (n : Nat) (v : Value) (hn : hs[n]? = some v) : Rep F Hp hs (.own n) v
  | agg (cs : List AV) (vs : List Value) (h : Reps F Hp hs cs vs) : Rep F Hp hs (.agg cs) (.agg vs.toArray)
  | tup (cs : List AV) (vs : List Value) (h : Reps F Hp hs cs vs) : Rep F Hp hs (.tup cs) (.tuple vs.toArray)
  | ifc (T : TypeId) (a : AV) (v : Value) (h : Rep F Hp hs a v) : Rep F Hp hs (.ifc T a) (.iface T v)
inductive Reps (F Hp : PH) (hs : List Value) : List AV → List Value → Prop where
  | nil : Reps F Hp hs [] []
  | cons {a : AV} {v : Value} {ags : List AV} {vs : List Value} (h : Rep F Hp hs a v) (ht : Reps F Hp hs ags vs) : Reps F Hp hs (a :: ags) (v :: vs)
end

/-- handles only grow -/
def HL (a b : List Value) : Prop := ∀ (n : Nat) v, a[n]? = some v → b[n]? = some v
theorem HL.refl (a : List Value) : HL a a := fun _ _ h => h
theorem HL.append (a b : List Value) : HL a (a ++ b) := fun n v h => by
  rw [List.getElem?_append_left (List.getElem?_eq_some_iff.1 h).1]; exact h
theorem HL.trans {a b c : List Value} (h : HL a b) (g : HL b c) : HL a c := fun _ _ x => g _ _ (h _ _ x)
theorem HL.nil (a : List Value) : HL [] a := fun _ _ h => by simp at h

mutual
theorem Rep.mono {F F' Hp Hp' : PH} {hs hs' : List Value} (hf : F.le F') (hp : Hp.le Hp') (hh : HL hs hs') : ∀ {a : AV} {v : Value}, Rep F Hp hs a v → Rep F' Hp' hs' a v
  | _, _, .top v => .top v
  | _, _, .val v => .val v
  | _, _, .tt => .tt
  | _, _, .ff => .ff
  | _, _, .sl k xs A cap css h1 h2 h3 h4 h5 => .sl k xs A cap css h1 h2 h3 (fun i x hx => Reps.mono hf hp hh (h4 i x hx))
      (fun i x j c hx hc => let ⟨a, e, g⟩ := h5 i x j c hx hc; ⟨a, e, cellAt.mono hp g⟩)
  | _, _, .lt k xs A cap css h1 h2 h3 h4 h5 => .lt k xs A cap css h1 h2 h3 (fun i x hx => Reps.mono hf hp hh (h4 i x hx))
      (fun i x j c hx hc => let ⟨a, e, g⟩ := h5 i x j c hx hc; ⟨a, e, rdAt.mono hf hp g⟩)
  | _, _, .rp cs off a vs hr hc => .rp cs off a vs (Reps.mono hf hp hh hr) (fun j c h => rdAt.mono hf hp (hc j c h))
  | _, _, .ptr n off b h => .ptr n off b (hh _ _ h)
  | _, _, .ep n sz i off b l c h => .ep n sz i off b l c (hh _ _ h)
  | _, _, .es n sz i len cap b l c A c' h h2 h3 h4 h5 => .es n sz i len cap b l c A c' (hh _ _ h) h2 h3 h4 h5
  | _, _, .own n v h => .own n v (hh _ _ h)
  | _, _, .agg cs vs h => .agg cs vs (Reps.mono hf hp hh h)
  | _, _, .tup cs vs h => .tup cs vs (Reps.mono hf hp hh h)
  | _, _, .ifc T a v h => .ifc T a v (Rep.mono hf hp hh h)
theorem Reps.mono {F F' Hp Hp' : PH} {hs hs' : List Value} (hf : F.le F') (hp : Hp.le Hp') (hh : HL hs hs') : ∀ {a : List AV} {v : List Value}, Reps F Hp hs a v → Reps F' Hp' hs' a v
  | _, _, .nil => .nil
  | _, _, .cons h t => .cons (Rep.mono hf hp hh h) (Reps.mono hf hp hh t)
end
section
variable {F Hp : PH} {hs : List Value}
theorem Reps.length : ∀ {a : List AV} {v : List Value}, Reps F Hp hs a v → a.length = v.length
  | _, _, .nil => rfl
  | _, _, .cons _ t => by simp [Reps.length t]
theorem Reps.get : ∀ {a : List AV} {v : List Value}, Reps F Hp hs a v → ∀ (i : Nat) (x : AV), a[i]? = some x → ∃ u, v[i]? = some u ∧ Rep F Hp hs x u
  | _, _, .nil, i, x, h => by simp at h
  | _, _, .cons hr t, 0, x, h => by simp at h; subst h; exact ⟨_, rfl, hr⟩
  | _, _, .cons _ t, i + 1, x, h => by simpa using Reps.get t i x (by simpa using h)
theorem Reps.getv {a : List AV} {v : List Value} (h : Reps F Hp hs a v) (i : Nat) (u : Value) (hu : v[i]? = some u) : ∃ x, a[i]? = some x ∧ Rep F Hp hs x u := by
  have hl := Reps.length h
  have hi : i < a.length := by rw [hl]; exact (List.getElem?_eq_some_iff.1 hu).1
  obtain ⟨u', h1, h2⟩ := Reps.get h i _ (List.getElem?_eq_getElem hi)
  rw [hu] at h1; cases h1
  exact ⟨_, List.getElem?_eq_getElem hi, h2⟩
theorem Reps.append : ∀ {a : List AV} {v : List Value} {b : List AV} {u : List Value}, Reps F Hp hs a v → Reps F Hp hs b u → Reps F Hp hs (a ++ b) (v ++ u)
  | _, _, _, _, .nil, h => h
  | _, _, _, _, .cons h t, g => .cons h (Reps.append t g)
theorem Reps.drop : ∀ (n : Nat) {a : List AV} {v : List Value}, Reps F Hp hs a v → Reps F Hp hs (a.drop n) (v.drop n)
  | 0, _, _, h => h
  | _ + 1, _, _, .nil => .nil
  | n + 1, _, _, .cons _ t => Reps.drop n t
theorem Reps.take : ∀ (n : Nat) {a : List AV} {v : List Value}, Reps F Hp hs a v → Reps F Hp hs (a.take n) (v.take n)
  | 0, _, _, _ => .nil
  | _ + 1, _, _, .nil => .nil
  | n + 1, _, _, .cons h t => .cons h (Reps.take n t)
theorem Reps.set {x : AV} {u : Value} (hx : Rep F Hp hs x u) : ∀ (n : Nat) {a : List AV} {v : List Value}, Reps F Hp hs a v → Reps F Hp hs (a.set n x) (v.set n u)
  | _, _, _, .nil => .nil
  | 0, _, _, .cons _ t => .cons hx t
  | n + 1, _, _, .cons h t => .cons h (Reps.set hx n t)
theorem Reps.inv_cons {x : AV} {a : List AV} {v : List Value} (h : Reps F Hp hs (x :: a) v) : ∃ u v', v = u :: v' ∧ Rep F Hp hs x u ∧ Reps F Hp hs a v' := by
  cases h with | cons h t => exact ⟨_, _, rfl, h, t⟩
theorem Reps.inv_nil {v : List Value} (h : Reps F Hp hs [] v) : v = [] := by cases h; rfl
theorem Rep.inv_val {v u : Value} (h : Rep F Hp hs (.val v) u) : u = v := by cases h; rfl
theorem Rep.inv_tt {u : Value} (h : Rep F Hp hs .tt u) : u = .bool true := by cases h; rfl
theorem Rep.inv_ff {u : Value} (h : Rep F Hp hs .ff u) : u = .bool false := by cases h; rfl
theorem Rep.inv_agg {cs : List AV} {u : Value} (h : Rep F Hp hs (.agg cs) u) : ∃ vs, u = .agg vs.toArray ∧ Reps F Hp hs cs vs := by
  cases h with | agg _ vs h => exact ⟨vs, rfl, h⟩
theorem Rep.inv_tup {cs : List AV} {u : Value} (h : Rep F Hp hs (.tup cs) u) : ∃ vs, u = .tuple vs.toArray ∧ Reps F Hp hs cs vs := by
  cases h with | tup _ vs h => exact ⟨vs, rfl, h⟩
/-- the nil slice is every empty list -/
theorem Rep.nil_sl (k : Kd) : Rep F Hp hs (.sl k []) (.slice none 0 0) :=
  .sl k [] none 0 (fun _ => []) (by simp) (by simp [maxLen]) (fun _ => rfl) (fun i x h => by simp at h) (fun i x j c h => by simp at h)
theorem Rep.empty_lt (k : Kd) (a : Addr) (cap : Nat) : Rep F Hp hs (.lt k []) (.slice (some a) 0 cap) :=
  .lt k [] (some a) cap (fun _ => []) (by simp) trivial (fun e => by cases e) (fun i x h => by simp at h) (fun i x j c h => by simp at h)
/-- what is kept may be read -/
theorem Rep.sl_lt {k : Kd} {xs : List (El k)} {v : Value} (h : Rep F Hp hs (.sl k xs) v) : Rep F Hp hs (.lt k xs) v := by
  cases h with
  | sl k xs A cap css h1 h2 h3 h4 h5 =>
    exact .lt k xs A cap css h1 trivial h3 h4 (fun i x j c hx hc => let ⟨a, e, g⟩ := h5 i x j c hx hc; ⟨a, e, .inl g⟩)
end
end Go.Sx
end
section
namespace Go.Sx
open Go

/-- a block of the call's own -/
inductive Blk where
  | flat (cs : List AV)
  | arr (k : Kd) (xs : List (El k))
  | strIt (s : ByteArray) (pos : Nat)
  | dead

def idOf : Value → Option Nat
  | .pointer (some a) => some a.block
  | .slice (some a) _ _ => some a.block
  | _ => none
def Blk.live : Blk → Bool
  | .dead => false
  | _ => true

/-- the cells of element i -/
def elCells (c : List Value) (sz i : Nat) : List Value := (c.drop (i * sz)).take sz

def BlkAt (F Hp : PH) (hs : List Value) (w : World) (h : Value) : Blk → Prop
  | .flat cs => ∃ b T vs, h = .pointer (some ⟨b, 0, none⟩) ∧ w.heap[b]? = some (.cells (vs : List Value).toArray T (0, 0)) ∧ Reps F Hp hs cs vs
  | .arr k xs => ∃ A cap, h = .slice A xs.length cap ∧ xs.length ≤ cap ∧ cap ≤ maxLen ∧ (A = none → cap = 0) ∧
      (∀ a, A = some a → ∃ b T c, a = ⟨b, 0, none⟩ ∧ w.heap[b]? = some (.cells (c : List Value).toArray T (0, 0)) ∧ c.length = cap * ksz k ∧
        ∀ i x, xs[i]? = some x → Reps F Hp hs (enc k x) (elCells c (ksz k) i))
  | .strIt s pos => ∃ b, h = .pointer (some ⟨b, 0, none⟩) ∧ w.heap[b]? = some (.stringIter s pos)
  | .dead => True

/-- what stays through all of a run, of a program -/
structure Base (P : Program) where
  w : World
  G : PH
  ok : ∀ g3 g4, P.globalNamed "unicode/utf8.first" = some g3 → P.globalNamed "unicode/utf8.acceptRanges" = some g4 → ∀ w' : World, (∀ b o, G b = some o → w'.heap[b]? = some o) → Lib.Utf8Tabs g3 g4 w'
abbrev Base.os {P : Program} (b : Base P) := b.w.os
abbrev Base.tape {P : Program} (b : Base P) := b.w.tape
abbrev Base.output {P : Program} (b : Base P) := b.w.output

structure InvS {P : Program} (w0 : Base P) (F Hp : PH) (hs : List Value) (M : List Blk) (w : World) : Prop where
  perm : ∀ b o, Hp b = some o → w.heap[b]? = some o
  fr : ∀ b o, F b = some o → w.heap[b]? = some o
  pf : ∀ b, Hp b = none ∨ F b = none
  len : hs.length = M.length
  one : ∀ v ∈ hs, v.oneCell' = true
  blk : ∀ (n : Nat) blk h, M[n]? = some blk → hs[n]? = some h → BlkAt F Hp hs w h blk
  own : ∀ (n : Nat) blk h b, M[n]? = some blk → blk.live = true → hs[n]? = some h → idOf h = some b → Hp b = none ∧ F b = none
  inj : ∀ (n m : Nat) bn bm hn hm b, M[n]? = some bn → M[m]? = some bm → bn.live = true → bm.live = true → hs[n]? = some hn → hs[m]? = some hm → idOf hn = some b → idOf hm = some b → n = m
  os : w.os = w0.os
  tape : w.tape = w0.tape
  output : w.output = w0.output
  gl : ∀ b o, w0.G b = some o → F b = some o ∨ Hp b = some o

section
variable {P : Program}
variable {w0 : Base P} {w : World} {F Hp : PH} {hs : List Value} {M : List Blk}

/-- only what is told has turned -/
structure Turned (w w' : World) (b : Nat) (o : Obj) : Prop where
  at_ : w'.heap[b]? = some o
  other : ∀ k : Nat, k ≠ b → w'.heap[k]? = w.heap[k]?
  os : w'.os = w.os
  tape : w'.tape = w.tape
  output : w'.output = w.output
structure AlikeW (w w' : World) : Prop where
  heap : ∀ k : Nat, w'.heap[k]? = w.heap[k]?
  os : w'.os = w.os
  tape : w'.tape = w.tape
  output : w'.output = w.output

theorem BlkAt.id {h : Value} {blk : Blk} (hb : BlkAt F Hp hs w h blk) {b : Nat} (hi : idOf h = some b) (hl : blk.live = true) : ∃ o, w.heap[b]? = some o := by
  cases blk with
  | flat cs => obtain ⟨b', T, vs, rfl, hh, _⟩ := hb; simp [idOf] at hi; subst hi; exact ⟨_, hh⟩
  | arr k xs =>
    obtain ⟨A, cap, rfl, _, _, _, hA⟩ := hb
    cases A with
    | none => simp [idOf] at hi
    | some a => obtain ⟨b', T, c, rfl, hh, _⟩ := hA a rfl; simp [idOf] at hi; subst hi; exact ⟨_, hh⟩
  | strIt s p => obtain ⟨b', rfl, hh⟩ := hb; simp [idOf] at hi; subst hi; exact ⟨_, hh⟩
  | dead => simp [Blk.live] at hl
theorem BlkAt.mono {F' Hp' : PH} {hs' : List Value} {w' : World} (hf : F.le F') (hp : Hp.le Hp') (hh : HL hs hs') {h : Value} {blk : Blk}
    (hw : ∀ b : Nat, idOf h = some b → w'.heap[b]? = w.heap[b]?) (hb : BlkAt F Hp hs w h blk) : BlkAt F' Hp' hs' w' h blk := by
  cases blk with
  | flat cs =>
    obtain ⟨b, T, vs, rfl, h1, h2⟩ := hb
    exact ⟨b, T, vs, rfl, by rw [hw b rfl]; exact h1, Reps.mono hf hp hh h2⟩
  | arr k xs =>
    obtain ⟨A, cap, rfl, h1, h2, h3, h4⟩ := hb
    refine ⟨A, cap, rfl, h1, h2, h3, fun a ha => ?_⟩
    obtain ⟨b, T, c, rfl, g1, g2, g3⟩ := h4 a ha
    exact ⟨b, T, c, rfl, by rw [hw b (by simp [idOf, ha])]; exact g1, g2, fun i x hx => Reps.mono hf hp hh (g3 i x hx)⟩
  | strIt s p =>
    obtain ⟨b, rfl, h1⟩ := hb
    exact ⟨b, rfl, by rw [hw b rfl]; exact h1⟩
  | dead => trivial

theorem InvS.alike {w' : World} (h : InvS w0 F Hp hs M w) (a : AlikeW w w') : InvS w0 F Hp hs M w' where
  perm b o hb := by rw [a.heap]; exact h.perm b o hb
  fr b o hb := by rw [a.heap]; exact h.fr b o hb
  pf := h.pf
  len := h.len
  one := h.one
  blk n blk hv hm hh := (h.blk n blk hv hm hh).mono (PH.le.refl _) (PH.le.refl _) (HL.refl _) (fun b _ => a.heap b)
  own := h.own
  inj := h.inj
  os := a.os.trans h.os
  tape := a.tape.trans h.tape
  output := a.output.trans h.output
  gl := h.gl
theorem AlikeW.drew (w : World) : AlikeW w w.drew := ⟨fun _ => rfl, rfl, rfl, rfl⟩
theorem AlikeW.refl (w : World) : AlikeW w w := ⟨fun _ => rfl, rfl, rfl, rfl⟩
theorem InvS.drew (h : InvS w0 F Hp hs M w) : InvS w0 F Hp hs M w.drew := h.alike (AlikeW.drew w)

/-- a name's block is below the heap's end -/
theorem InvS.id_lt (h : InvS w0 F Hp hs M w) {n : Nat} {blk : Blk} {v : Value} {b : Nat} (hm : M[n]? = some blk) (hl : blk.live = true) (hh : hs[n]? = some v) (hi : idOf v = some b) : b < w.heap.size := by
  obtain ⟨o, ho⟩ := (h.blk n blk v hm hh).id hi hl
  exact (Array.getElem?_eq_some_iff.1 ho).1
theorem InvS.perm_lt (h : InvS w0 F Hp hs M w) {b : Nat} {o : Obj} (hb : Hp b = some o) : b < w.heap.size := (Array.getElem?_eq_some_iff.1 (h.perm b o hb)).1
theorem InvS.fr_lt (h : InvS w0 F Hp hs M w) {b : Nat} {o : Obj} (hb : F b = some o) : b < w.heap.size := (Array.getElem?_eq_some_iff.1 (h.fr b o hb)).1
theorem InvS.fresh_none (h : InvS w0 F Hp hs M w) : Hp w.heap.size = none ∧ F w.heap.size = none := by
  constructor
  · cases hb : Hp w.heap.size with
    | none => rfl
    | some o => have := h.perm_lt hb; omega
  · cases hb : F w.heap.size with
    | none => rfl
    | some o => have := h.fr_lt hb; omega

theorem heap_alloc_ne (w : World) (o : Obj) {k : Nat} (hk : k ≠ w.heap.size) : (w.alloc o).heap[k]? = w.heap[k]? := by
  show (w.heap.push o)[k]? = _
  rw [Array.getElem?_push, if_neg hk]
theorem heap_alloc_at (w : World) (o : Obj) : (w.alloc o).heap[w.heap.size]? = some o := heap_alloc_new w o
def PH.put (H : PH) (b : Nat) (o : Obj) : PH := fun k => if k = b then some o else H k
theorem PH.put_le {H : PH} {b : Nat} {o : Obj} (hb : H b = none) : H.le (H.put b o) := by
  intro n x hx
  unfold PH.put
  split
  · rename_i e; subst e; rw [hb] at hx; cases hx
  · exact hx
theorem PH.put_at (H : PH) (b : Nat) (o : Obj) : H.put b o b = some o := by simp [PH.put]
theorem PH.put_ne {H : PH} {b k : Nat} {o : Obj} (h : k ≠ b) : H.put b o k = H k := by simp [PH.put, h]

/-- new memory that stays ags it is made -/
theorem InvS.alloc_im (h : InvS w0 F Hp hs M w) (o : Obj) : InvS w0 F (Hp.put w.heap.size o) hs M (w.alloc o) ∧ Hp.le (Hp.put w.heap.size o) := by
  obtain ⟨hn, hf⟩ := h.fresh_none
  have hle : Hp.le (Hp.put w.heap.size o) := PH.put_le hn
  refine ⟨?_, hle⟩
  constructor
  · intro b x hx
    unfold PH.put at hx
    split at hx
    · rename_i e; subst e; cases hx; exact heap_alloc_at w o
    · have := h.perm_lt hx
      rw [heap_alloc_ne w o (by omega)]; exact h.perm b x hx
  · intro b x hx
    have := h.fr_lt hx
    rw [heap_alloc_ne w o (by omega)]; exact h.fr b x hx
  · intro b
    by_cases e : b = w.heap.size
    · subst e; exact .inr hf
    · rw [PH.put_ne e]; exact h.pf b
  · exact h.len
  · exact h.one
  · intro n blk v hm hh
    by_cases hl : blk.live = true
    · refine (h.blk n blk v hm hh).mono (PH.le.refl _) hle (HL.refl _) fun b hb => ?_
      have := h.id_lt hm hl hh hb
      exact heap_alloc_ne w o (by omega)
    · cases blk <;> simp [Blk.live] at hl
      trivial
  · intro n blk v b hm hl hh hi
    have := h.id_lt hm hl hh hi
    rw [PH.put_ne (by omega)]
    exact h.own n blk v b hm hl hh hi
  · exact h.inj
  · exact h.os
  · exact h.tape
  · exact h.output
  · exact fun b o hb => (h.gl b o hb).imp id (hle b o)

theorem get_append_one {α : Type} {l : List α} {x y : α} {n : Nat} (h : (l ++ [x])[n]? = some y) : l[n]? = some y ∨ (n = l.length ∧ y = x) := by
  rcases Nat.lt_trichotomy n l.length with hn | hn | hn
  · rw [List.getElem?_append_left hn] at h; exact .inl h
  · subst hn; rw [List.getElem?_append_right (Nat.le_refl _)] at h; simp at h; exact .inr ⟨rfl, h.symm⟩
  · rw [List.getElem?_append_right (by omega)] at h
    have : n - l.length ≠ 0 := by omega
    cases hk : n - l.length with
    | zero => omega
    | succ k => rw [hk] at h; simp at h

/-- a new name, in new memory or in none -/
theorem InvS.add {w' : World} (h : InvS w0 F Hp hs M w) (blk : Blk) (v : Value) (hw : ∀ k : Nat, k < w.heap.size → w'.heap[k]? = w.heap[k]?)
    (hos : w'.os = w.os) (htape : w'.tape = w.tape) (hout : w'.output = w.output)
    (hone : v.oneCell' = true) (hid : ∀ b, idOf v = some b → w.heap.size ≤ b) (hb : BlkAt F Hp (hs ++ [v]) w' v blk) : InvS w0 F Hp (hs ++ [v]) (M ++ [blk]) w' := by
  have key : ∀ (n : Nat) blk' v', (M ++ [blk])[n]? = some blk' → (hs ++ [v])[n]? = some v' → (M[n]? = some blk' ∧ hs[n]? = some v') ∨ (n = M.length ∧ blk' = blk ∧ v' = v) := by
    intro n blk' v' h1 h2
    have q1 := get_append_one h1
    have q2 := get_append_one h2
    clear h1 h2
    rcases q1 with q1 | ⟨q1, e1⟩ <;> rcases q2 with q2 | ⟨q2, e2⟩
    · exact .inl ⟨q1, q2⟩
    · have := (List.getElem?_eq_some_iff.1 q1).1; have := h.len; omega
    · have := (List.getElem?_eq_some_iff.1 q2).1; have := h.len; omega
    · exact .inr ⟨q1, e1, e2⟩
  constructor
  · intro b o hb'; rw [hw b (h.perm_lt hb')]; exact h.perm b o hb'
  · intro b o hb'; rw [hw b (h.fr_lt hb')]; exact h.fr b o hb'
  · exact h.pf
  · simp [h.len]
  · intro u hu
    rcases List.mem_append.1 hu with hu | hu
    · exact h.one u hu
    · simp at hu; subst hu; exact hone
  · intro n blk' v' h1 h2
    rcases key n blk' v' h1 h2 with ⟨h1, h2⟩ | ⟨_, rfl, rfl⟩
    · by_cases hl : blk'.live = true
      · exact (h.blk n blk' v' h1 h2).mono (PH.le.refl _) (PH.le.refl _) (HL.append _ _) fun b hb' => hw b (h.id_lt h1 hl h2 hb')
      · cases blk' <;> simp [Blk.live] at hl
        trivial
    · exact hb
  · intro n blk' v' b h1 hl h2 hi
    rcases key n blk' v' h1 h2 with ⟨h1, h2⟩ | ⟨_, rfl, rfl⟩
    · exact h.own n blk' v' b h1 hl h2 hi
    · have := hid b hi
      refine ⟨?_, ?_⟩
      · cases hx : Hp b with
        | none => rfl
        | some o => have := h.perm_lt hx; omega
      · cases hx : F b with
        | none => rfl
        | some o => have := h.fr_lt hx; omega
  · intro n m bn bm hn hm b h1 h2 l1 l2 g1 g2 i1 i2
    have q1 := key n bn hn h1 g1
    have q2 := key m bm hm h2 g2
    clear h1 h2 g1 g2
    rcases q1 with ⟨h1, g1⟩ | ⟨e1, rfl, rfl⟩ <;> rcases q2 with ⟨h2, g2⟩ | ⟨e2, rfl, rfl⟩
    · exact h.inj n m bn bm hn hm b h1 h2 l1 l2 g1 g2 i1 i2
    · have := h.id_lt h1 l1 g1 i1; have := hid b i2; omega
    · have := h.id_lt h2 l2 g2 i2; have := hid b i1; omega
    · omega
  · rw [hos]; exact h.os
  · rw [htape]; exact h.tape
  · rw [hout]; exact h.output
  · exact h.gl

/-- a name's block turns -/
theorem InvS.turn {w' : World} {n : Nat} {old new : Blk} {v : Value} {b : Nat} {o : Obj} (h : InvS w0 F Hp hs M w) (hm : M[n]? = some old) (hl : old.live = true) (hh : hs[n]? = some v) (hi : idOf v = some b)
    (ht : Turned w w' b o) (hb : BlkAt F Hp hs w' v new) : InvS w0 F Hp hs (M.set n new) w' := by
  obtain ⟨hn1, hn2⟩ := h.own n old v b hm hl hh hi
  have hlt : n < M.length := (List.getElem?_eq_some_iff.1 hm).1
  have key : ∀ (m : Nat) blk', (M.set n new)[m]? = some blk' → (m = n ∧ blk' = new) ∨ (m ≠ n ∧ M[m]? = some blk') := by
    intro m blk' h1
    by_cases e : m = n
    · subst e; rw [List.getElem?_set_self hlt] at h1; cases h1; exact .inl ⟨rfl, rfl⟩
    · rw [List.getElem?_set_ne (fun x => e x.symm)] at h1; exact .inr ⟨e, h1⟩
  constructor
  · intro k x hx
    have : k ≠ b := fun e => by subst e; rw [hn1] at hx; cases hx
    rw [ht.other k this]; exact h.perm k x hx
  · intro k x hx
    have : k ≠ b := fun e => by subst e; rw [hn2] at hx; cases hx
    rw [ht.other k this]; exact h.fr k x hx
  · exact h.pf
  · simp [h.len]
  · exact h.one
  · intro m blk' v' h1 h2
    rcases key m blk' h1 with ⟨rfl, rfl⟩ | ⟨hne, h1⟩
    · rw [hh] at h2; cases h2; exact hb
    · by_cases hl' : blk'.live = true
      · refine (h.blk m blk' v' h1 h2).mono (PH.le.refl _) (PH.le.refl _) (HL.refl _) fun c hc => ht.other c fun e => ?_
        subst e
        exact hne (h.inj m n blk' old v' v _ h1 hm hl' hl h2 hh hc hi)
      · cases blk' <;> simp [Blk.live] at hl'
        trivial
  · intro m blk' v' c h1 hl' h2 hc
    rcases key m blk' h1 with ⟨rfl, rfl⟩ | ⟨hne, h1⟩
    · rw [hh] at h2; cases h2; rw [hi] at hc; cases hc; exact ⟨hn1, hn2⟩
    · exact h.own m blk' v' c h1 hl' h2 hc
  · intro m m' bn bm vn vm c h1 h2 l1 l2 g1 g2 i1 i2
    have q1 := key m bn h1
    have q2 := key m' bm h2
    clear h1 h2
    rcases q1 with ⟨e1, e1'⟩ | ⟨hne, h1⟩ <;> rcases q2 with ⟨e2, e2'⟩ | ⟨hne', h2⟩
    · omega
    · subst e1; rw [hh] at g1; cases g1
      exact h.inj _ _ old bm v vm c hm h2 hl l2 hh g2 i1 i2
    · subst e2; rw [hh] at g2; cases g2
      exact h.inj _ _ bn old vn v c h1 hm l1 hl g1 hh i1 i2
    · exact h.inj _ _ bn bm vn vm c h1 h2 l1 l2 g1 g2 i1 i2
  · rw [ht.os]; exact h.os
  · rw [ht.tape]; exact h.tape
  · rw [ht.output]; exact h.output
  · exact h.gl

/-- a name is given up -/
theorem InvS.kill (h : InvS w0 F Hp hs M w) (n : Nat) : InvS w0 F Hp hs (M.set n .dead) w := by
  have key : ∀ (m : Nat) blk', (M.set n .dead)[m]? = some blk' → blk' = .dead ∨ M[m]? = some blk' := by
    intro m blk' h1
    by_cases e : m = n
    · subst e
      rw [List.getElem?_set] at h1
      split at h1
      · split at h1
        · cases h1; exact .inl rfl
        · cases h1
      · exact .inr h1
    · rw [List.getElem?_set_ne (fun x => e x.symm)] at h1; exact .inr h1
  constructor
  · exact h.perm
  · exact h.fr
  · exact h.pf
  · simp [h.len]
  · exact h.one
  · intro m blk' v' h1 h2
    rcases key m blk' h1 with rfl | h1
    · trivial
    · exact h.blk m blk' v' h1 h2
  · intro m blk' v' c h1 hl' h2 hc
    rcases key m blk' h1 with rfl | h1
    · simp [Blk.live] at hl'
    · exact h.own m blk' v' c h1 hl' h2 hc
  · intro m m' bn bm vn vm c h1 h2 l1 l2 g1 g2 i1 i2
    rcases key m bn h1 with rfl | h1
    · simp [Blk.live] at l1
    rcases key m' bm h2 with rfl | h2
    · simp [Blk.live] at l2
    exact h.inj _ _ bn bm vn vm c h1 h2 l1 l2 g1 g2 i1 i2
  · exact h.os
  · exact h.tape
  · exact h.output
  · exact h.gl
end
end Go.Sx
end
section
namespace Go.Sx
open Go

/-! types -/
inductive TK where
  | int (k : IntKind) | bool | str | slice (e : TypeId) | ptr (e : TypeId) | strct (fs : List (Nat × TypeId)) | iface | other
structure TD where
  k : TK
  size : Nat
  bytes : Nat
  zero : List Value
  kd : Option Kd
  cmp : Bool
  zag : Bool
def TK.fits : TK → TypeDesc → Prop
  | .int k, d => d = .int k
  | .bool, d => d = .bool
  | .str, d => d = .string
  | .slice e, d => d = .slice e
  | .ptr e, d => d = .pointer e
  | .strct fs, d => ∃ fields : Array Field, d = .struct fields ∧ fields.toList.map (fun f => (f.offset, f.type)) = fs
  | .iface, d => ∃ ms, d = .interface ms
  | .other, _ => True
def TK.agg : TK → Bool
  | .strct _ => true
  | _ => false
/-- what a type's row of the table is held to -/
structure TyRow (P : Program) (t : TypeId) (d : TD) (u : TypeDesc) (i : TypeInfo) : Prop where
  info : P.info? t = some i
  und : P.underlying t = some u
  fits : d.k.fits u
  agg : (match u with | .struct _ | .array _ _ => true | _ => false) = d.k.agg
  notIface : d.k ≠ .iface → ∀ ms, u ≠ .interface ms
  size : i.size = d.size
  bytes : i.bytes = d.bytes
  zero : ∃ z, i.zero = some z ∧ z.cells.toList = d.zero
  zlen : d.zero.length = d.size
  zag : d.zag = true → i.zero = some (.agg d.zero.toArray)
  cmp : d.cmp = true → P.eqGuardType P.depth t = false ∧ P.stoodInHeld t = false ∧ ∀ fs, u = .struct fs → ∀ f ∈ fs.toList, f.name ≠ "_"
abbrev Ty := TypeId → Option TD
def TyOk (P : Program) (ty : Ty) : Prop := ∀ t d, ty t = some d → ∃ u i, TyRow P t d u i

section
variable {P : Program} {t : TypeId} {d : TD} {u : TypeDesc} {i : TypeInfo}
theorem TyRow.run_und (h : TyRow P t d u i) (w : World) : (underlying t).run P w = .ok u w := by simp [underlying, h.und]
theorem TyRow.run_info (h : TyRow P t d u i) (w : World) : (typeInfo t).run P w = .ok i w := by simp [typeInfo, h.info]
theorem TyRow.run_size (h : TyRow P t d u i) (w : World) : (sizeOf t).run P w = .ok d.size w := by simp [sizeOf, h.run_info, h.size]
theorem TyRow.run_isAgg (h : TyRow P t d u i) (w : World) : (isAgg t).run P w = .ok d.k.agg w := by
  simp only [isAgg, Sem.run_bind, h.run_und, Result.andThen_ok, ← h.agg]
  cases u <;> rfl
end

/-! the frame -/
abbrev Fr := List (Nat × AV)
def Fr.get : Fr → Nat → AV
  | [], _ => .top
  | (k, v) :: r, n => match Nat.beq k n with
    | true => v
    | false => Fr.get r n
def evO (fr : Fr) : Operand → AV
  | .tmp t => fr.get t
  | .const (.bool b) => match b with
    | true => .tt
    | false => .ff
  | .const v => .val v
  | .global g => .val (.pointer (some ⟨g, 0, none⟩))
  | .func f => .val (.func (.func f) #[] #[])
def AV.bool? : AV → Option Bool
  | .tt => some true
  | .ff => some false
  | .val (.bool b) => some b
  | _ => none
theorem bool?_rep {F Hp : PH} {hs : List Value} {x : AV} {b : Bool} {v : Value} (h : x.bool? = some b) (hr : Rep F Hp hs x v) : v = .bool b := by
  unfold AV.bool? at h
  split at h <;> first | (cases h; cases hr; rfl) | cases h

/-- byte i of a string -/
def bt (s : ByteArray) (i : Nat) : Int := ((s.data.toList[i]?).getD 0).toNat

/-- the cells of a struct's list, from one on: one, or a struct of so many -/
def cut (agg : Bool) (size off : Nat) (cs : List AV) (K : AV → Prop) : Prop :=
  match agg with
  | true => match Nat.ble (off + size) cs.length with
    | true => K (.agg ((cs.drop off).take size))
    | false => False
  | false => match cs[off]? with
    | some c => K c
    | none => False

/-! operations that only tell a value -/
def evBinI (op : BinOp) (k : IntKind) (a b : Int) (K : AV → Prop) : Prop :=
  match op with
  | .add => K (.val (.int k (k.wrap (a + b))))
  | .sub => K (.val (.int k (k.wrap (a - b))))
  | .mul => K (.val (.int k (k.wrap (a * b))))
  | .quo => b ≠ 0 ∧ K (.val (.int k (k.wrap (a.tdiv b))))
  | .rem => b ≠ 0 ∧ K (.val (.int k (a.tmod b)))
  | .and => K (.val (.int k (bits .and k a b)))
  | .or => K (.val (.int k (bits .or k a b)))
  | .xor => K (.val (.int k (bits .xor k a b)))
  | .andNot => K (.val (.int k (bits .andNot k a b)))
  | .eql => K (.val (.bool (decide (a = b))))
  | .neq => K (.val (.bool (!decide (a = b))))
  | .lss => K (.val (.bool (decide (a < b))))
  | .leq => K (.val (.bool (decide (a ≤ b))))
  | .gtr => K (.val (.bool (decide (b < a))))
  | .geq => K (.val (.bool (decide (b ≤ a))))
  | _ => False
theorem beq_eq_dec {α : Type} [BEq α] [LawfulBEq α] [DecidableEq α] (a b : α) : (a == b) = decide (a = b) := by
  rw [Bool.eq_iff_iff]; simp
theorem toList_beq (a b : ByteArray) : (a.toList == b.toList) = decide (a = b) := by
  rw [Bool.eq_iff_iff, beq_iff_eq, decide_eq_true_iff]
  constructor
  · intro h
    rw [ByteArray.toList_eq, ByteArray.toList_eq] at h
    obtain ⟨⟨x⟩⟩ := a
    obtain ⟨⟨y⟩⟩ := b
    simp at h
    rw [h]
  · rintro rfl; rfl
/-! equality of values of a struct -/
def evEqF (ty : Ty) (f : TypeId → List AV → List AV → Option Bool) (xs ys : List AV) : List (Nat × TypeId) → Option Bool
  | [] => some true
  | (off, ft) :: r => match ty ft with
    | some fd => match Nat.ble (off + fd.size) xs.length, Nat.ble (off + fd.size) ys.length, Nat.ble 1 fd.size, f ft ((xs.drop off).take fd.size) ((ys.drop off).take fd.size), evEqF ty f xs ys r with
      | true, true, true, some a, some b => some (a && b)
      | _, _, _, _, _ => none
    | none => none
def evEq (ty : Ty) : Nat → TypeId → List AV → List AV → Option Bool
  | 0, _, _, _ => none
  | d + 1, t, xs, ys => match ty t with
    | some td => match td.k with
      | .int _ => match xs, ys with
        | [.val (.int k a)], [.val (.int k' b)] => match decide (k = k') with
          | true => some (decide (a = b))
          | false => none
        | _, _ => none
      | .str => match xs, ys with
        | [.val (.string a)], [.val (.string b)] => some (decide (a = b))
        | _, _ => none
      | .bool => match xs, ys with
        | [x], [y] => match x.bool?, y.bool? with
          | some a, some b => some (a == b)
          | _, _ => none
        | _, _ => none
      | .strct fs => match td.cmp with
        | true => evEqF ty (evEq ty d) xs ys fs
        | false => none
      | _ => none
    | none => none
/-- a value, by its cells -/
def OfCells (agg : Bool) (v : Value) (vs : List Value) : Prop := (agg = true → v = .agg vs.toArray) ∧ (agg = false → vs = [v])
theorem bool?_rep1 {F Hp : PH} {hs : List Value} {x : AV} {b : Bool} {v : Value} (h : x.bool? = some b) (hr : Rep F Hp hs x v) : v = .bool b := bool?_rep h hr
theorem run_part {P : Program} {ft : TypeId} {fd : TD} {uf : TypeDesc} {fi : TypeInfo} (frow : TyRow P ft fd uf fi) {w : World} {us : List Value} {off : Nat} (h1 : off + fd.size ≤ us.length) (h2 : 1 ≤ fd.size) :
    fd.k.agg = false → fd.size = 1 → ∃ v, (part ft us.toArray off).run P w = .ok v w ∧ OfCells false v ((us.drop off).take fd.size) := by
  intro hag hs
  have hlt : off < us.length := by omega
  refine ⟨us[off], ?_, ⟨fun e => by simp at e, fun _ => ?_⟩⟩
  · simp [part, frow.run_isAgg, hag, hlt]
  · rw [hs, List.drop_eq_getElem_cons hlt]; rfl
theorem run_partA {P : Program} {ft : TypeId} {fd : TD} {uf : TypeDesc} {fi : TypeInfo} (frow : TyRow P ft fd uf fi) {w : World} {us : List Value} {off : Nat} 
    (hag : fd.k.agg = true) : ∃ v, (part ft us.toArray off).run P w = .ok v w ∧ OfCells true v ((us.drop off).take fd.size) := by
  refine ⟨_, ?_, ⟨fun _ => rfl, fun e => by cases e⟩⟩
  simp only [part, Sem.run_bind, frow.run_isAgg, Result.andThen_ok, hag, if_true, frow.run_size, Sem.run_pure]
  congr 2
  simp
theorem evEq_ok {P : Program} {ty : Ty} (hty : TyOk P ty) : ∀ (d : Nat) (t : TypeId) (xs ys : List AV) (b : Bool), evEq ty d t xs ys = some b → ∀ td, ty t = some td → ∀ (D : Nat), d ≤ D → ∀ (F Hp : PH) (hs : List Value) (w : World) (us vs : List Value) (u v : Value),
    Reps F Hp hs xs us → Reps F Hp hs ys vs → OfCells td.k.agg u us → OfCells td.k.agg v vs → (Op.equalIn D t u v).run P w = .ok b w := by
  intro d
  induction d with
  | zero => intro t xs ys b h; cases h
  | succ d ih =>
    intro t xs ys b h td htd D hD F Hp hs w us vs u v hx hy hu hv
    obtain ⟨D, rfl⟩ : ∃ m, D = m + 1 := ⟨D - 1, by omega⟩
    obtain ⟨ud, ti, row⟩ := hty t td htd
    simp only [evEq, htd] at h
    split at h
    · rename_i kk hk
      rw [hk] at hu hv
      have hu := hu.2 rfl; have hv := hv.2 rfl
      subst hu hv
      split at h
      · rename_i k a k' b' 
        split at h
        · rename_i e
          have e := of_decide_eq_true e
          subst e
          cases h
          obtain ⟨_, _, e1, r1, _⟩ := hx.inv_cons
          obtain ⟨_, _, e2, r2, _⟩ := hy.inv_cons
          cases e1; cases e2
          cases r1.inv_val; cases r2.inv_val
          have hfit := row.fits; rw [hk] at hfit
          have hund : P.underlying t = some (.int kk) := by rw [row.und]; exact congrArg some hfit
          rw [run_equalIn_int w D t k kk a b' hund, beq_eq_dec]
        · cases h
      · cases h
    · rename_i hk
      rw [hk] at hu hv
      have hu := hu.2 rfl; have hv := hv.2 rfl
      subst hu hv
      split at h
      · rename_i a b'
        cases h
        obtain ⟨_, _, e1, r1, _⟩ := hx.inv_cons
        obtain ⟨_, _, e2, r2, _⟩ := hy.inv_cons
        cases e1; cases e2
        cases r1.inv_val; cases r2.inv_val
        have hfit := row.fits; rw [hk] at hfit
        have hund : P.underlying t = some .string := by rw [row.und]; exact congrArg some hfit
        rw [run_equalIn_string w D t a b' hund, toList_beq]
      · cases h
    · rename_i hk
      rw [hk] at hu hv
      have hu := hu.2 rfl; have hv := hv.2 rfl
      subst hu hv
      split at h
      · rename_i x y
        split at h
        · rename_i a b' ha hb
          cases h
          obtain ⟨_, _, e1, r1, _⟩ := hx.inv_cons
          obtain ⟨_, _, e2, r2, _⟩ := hy.inv_cons
          cases e1; cases e2
          cases bool?_rep ha r1; cases bool?_rep hb r2
          have hfit := row.fits; rw [hk] at hfit
          have hund : P.underlying t = some .bool := by rw [row.und]; exact congrArg some hfit
          rw [run_equalIn_bool' w D t a b' hund]
        · cases h
      · cases h
    · rename_i fs hk
      split at h
      · rename_i hcmp
        obtain ⟨c1, c2, c3⟩ := row.cmp hcmp
        rw [hk] at hu hv
        have hu := hu.1 rfl; have hv := hv.1 rfl
        subst hu hv
        have hfit := row.fits
        rw [hk] at hfit
        obtain ⟨fields, rfl, hfields⟩ := hfit
        have hfo : P.fieldsOf t = fields := by simp [Program.fieldsOf, row.und]
        rw [run_equalIn_agg w D t us.toArray vs.toArray (by rw [hfo]; exact row.und) c2, hfo]
        have hname := c3 _ rfl
        have hlx := hx.length
        have hly := hy.length
        clear hk row hfo c3
        generalize hfl : fields.toList = fl at *
        clear hfl
        subst hfields
        clear hu hv
        revert b
        induction fl with
        | nil => intro b h; simp only [List.map_nil, evEqF] at h; cases h; rfl
        | cons f fl ihf =>
          intro b h
          simp only [List.map_cons, evEqF] at h
          split at h
          · rename_i fd hfd
            split at h
            · rename_i a b' e1 e2 e3 ha hb
              cases h
              have e1 := Nat.le_of_ble_eq_true e1
              have e2 := Nat.le_of_ble_eq_true e2
              have e3 := Nat.le_of_ble_eq_true e3
              obtain ⟨uf, fi, frow⟩ := hty f.type fd hfd
              have key : ∀ (zs : List Value), f.offset + fd.size ≤ zs.length → (fd.k.agg = false → fd.size = 1) → ∃ z, (part f.type zs.toArray f.offset).run P w = .ok z w ∧ OfCells fd.k.agg z ((zs.drop f.offset).take fd.size) := by
                intro zs hz h1
                cases hag : fd.k.agg with
                | true => have := run_partA frow (w := w) (us := zs) (off := f.offset) hag; exact this
                | false => exact run_part frow (w := w) hz e3 hag (h1 hag)
              have hone : fd.k.agg = false → fd.size = 1 := by
                intro hag
                cases d with
                | zero => cases ha
                | succ d =>
                simp only [evEq, hfd] at ha
                have hlen : ((xs.drop f.offset).take fd.size).length = fd.size := by rw [List.length_take, List.length_drop]; omega
                split at ha
                · split at ha
                  · rename_i e _; rw [e] at hlen; simpa using hlen.symm
                  · cases ha
                · split at ha
                  · rename_i e _; rw [e] at hlen; simpa using hlen.symm
                  · cases ha
                · split at ha
                  · rename_i e _; rw [e] at hlen; simpa using hlen.symm
                  · cases ha
                · rename_i hk; rw [hk] at hag; cases hag
                · cases ha
              obtain ⟨z1, p1, o1⟩ := key us (by omega) hone
              obtain ⟨z2, p2, o2⟩ := key vs (by omega) hone
              have hr := ih f.type _ _ a ha fd hfd D (by omega) F Hp hs w _ _ z1 z2 ((hx.drop _).take _) ((hy.drop _).take _) o1 o2
              have hn : f.name ≠ "_" := hname f (by simp)
              simp only [Op.eqFields, hn, ne_eq, not_false_eq_true, if_true, Sem.run_bind, p1, p2, hr, Result.andThen_ok]
              cases a with
              | false => simp
              | true =>
                simp only [Bool.not_true, Bool.false_eq_true, if_false, Bool.true_and]
                exact ihf (fun g hg => hname g (by simp [hg])) b' hb
            · cases h
          · cases h
      · cases h
    · cases h
/-- a slice, or a pointer, beside nil -/
def tf : Bool → AV
  | true => .tt
  | false => .ff
theorem tf_rep {F Hp : PH} {hs : List Value} (c : Bool) : Rep F Hp hs (tf c) (.bool c) := by
  cases c
  · exact .ff
  · exact .tt
def evNilB (ty : Ty) (t : TypeId) (op : BinOp) (sl : Bool) (c : Bool) (K : AV → Prop) : Prop :=
  match (ty t).map TD.k, sl, op with
  | some (.slice _), true, .eql => K (tf c)
  | some (.slice _), true, .neq => K (tf (!c))
  | some (.ptr _), false, .eql => K (tf c)
  | some (.ptr _), false, .neq => K (tf (!c))
  | _, _, _ => False
def evBin (ty : Ty) (op : BinOp) (t : TypeId) (x y : AV) (K : AV → Prop) : Prop :=
  match x, y with
  | .val (.int k a), .val (.int k' b) => match op with
    | .shl => (0 ≤ b ∧ b ≤ k.bits) ∧ K (.val (.int k (k.wrap (a * 2 ^ b.toNat))))
    | .shr => (0 ≤ b ∧ b ≤ k.bits) ∧ K (.val (.int k (a / 2 ^ b.toNat)))
    | op => match decide (k = k') with
      | true => evBinI op k a b K
      | false => False
  | .val (.string a), .val (.string b) => match op with
    | .add => a.size + b.size ≤ 4611686018427387904 ∧ K (.val (.string (a ++ b)))
    | .eql => K (.val (.bool (decide (a = b))))
    | .neq => K (.val (.bool (!decide (a = b))))
    | _ => False
  | .agg xs, .agg ys => match (match ty t with
      | some td => td.k.agg
      | none => false), evEq ty 5 t xs ys, op with
    | true, some b, .eql => K (.val (.bool b))
    | true, some b, .neq => K (.val (.bool (!b)))
    | _, _, _ => False
  | .lt _ xs, .val (.slice none 0 0) => 0 < xs.length ∧ evNilB ty t op true false K
  | .val (.slice none _ _), .val (.slice none 0 0) => evNilB ty t op true true K
  | .val (.slice (some _) _ _), .val (.slice none 0 0) => evNilB ty t op true false K
  | .ptr _ _, .val (.pointer none) => evNilB ty t op false false K
  | .val (.pointer none), .val (.pointer none) => evNilB ty t op false true K
  | x, y => match x.bool?, y.bool?, op, ((ty t).map TD.k : Option TK) with
    | some a, some b, .eql, some TK.bool => K (.val (.bool (a == b)))
    | some a, some b, .neq, some TK.bool => K (.val (.bool (a != b)))
    | _, _, _, _ => False
theorem evBinI_ok {op : BinOp} {k : IntKind} {a b : Int} {K : AV → Prop} (h : evBinI op k a b K) :
    ∃ r, K (.val r) ∧ ∀ (P : Program) (t : TypeId) (w : World), (binOp op t (.int k a) (.int k b)).run P w = .ok r w := by
  cases op <;> simp only [evBinI] at h
  case add => exact ⟨_, h, fun P t w => by simp [binOp, Op.intArith]⟩
  case sub => exact ⟨_, h, fun P t w => by simp [binOp, Op.intArith]⟩
  case mul => exact ⟨_, h, fun P t w => by simp [binOp, Op.intArith]⟩
  case quo => exact ⟨_, h.2, fun P t w => by simp [binOp, Op.intDiv, h.1]⟩
  case rem => exact ⟨_, h.2, fun P t w => by simp [binOp, Op.intDiv, h.1]⟩
  case and => exact ⟨_, h, fun P t w => by simp [binOp_and, intBits_and]⟩
  case or => exact ⟨_, h, fun P t w => by simp [binOp_or, intBits_or]⟩
  case xor => exact ⟨_, h, fun P t w => by simp [binOp_xor, intBits_xor]⟩
  case andNot => exact ⟨_, h, fun P t w => by simp [binOp_andNot, intBits_andNot]⟩
  case eql => exact ⟨_, h, fun P t w => by simp [binOp_eql, beq_eq_dec]⟩
  case neq => exact ⟨_, h, fun P t w => by simp [binOp_neq, bne, beq_eq_dec]⟩
  case lss => exact ⟨_, h, fun P t w => by simp [binOp_lss]⟩
  case leq => exact ⟨_, h, fun P t w => by simp [binOp_leq]⟩
  case gtr => exact ⟨_, h, fun P t w => by simp [binOp_gtr]⟩
  case geq => exact ⟨_, h, fun P t w => by simp [binOp_geq]⟩
  all_goals exact h.elim
theorem evEq_guard {P : Program} {ty : Ty} (hty : TyOk P ty) {d : Nat} {t : TypeId} {xs ys : List AV} {b : Bool} (h : evEq ty d t xs ys = some b) {td : TD} (htd : ty t = some td) (hag : td.k.agg = true) : P.eqGuardType P.depth t = false := by
  obtain ⟨ud, ti, row⟩ := hty t td htd
  cases d with
  | zero => cases h
  | succ d =>
    simp only [evEq, htd] at h
    split at h
    · rename_i e; rw [e] at hag; cases hag
    · rename_i e; rw [e] at hag; cases hag
    · rename_i e; rw [e] at hag; cases hag
    · split at h
      · rename_i hc; exact (row.cmp hc).1
      · cases h
    · cases h
theorem evNilB_sl {P : Program} {ty : Ty} (hty : TyOk P ty) {t : TypeId} {op : BinOp} {c : Bool} {K : AV → Prop} (h : evNilB ty t op true c K) : ∃ c', K (tf c') ∧ ∀ (w : World) (a : Option Addr) (l cap : Nat), a.isNone = c →
    (∀ (p q : Operand), (eqGuard op t p q (.slice a l cap) (.slice none 0 0)).run P w = .ok () w) ∧ (binOp op t (.slice a l cap) (.slice none 0 0)).run P w = .ok (.bool c') w := by
  unfold evNilB at h
  have hund : ∀ e, (ty t).map TD.k = some (.slice e) → P.underlying t = some (.slice e) := by
    intro e he
    obtain ⟨d, hd, hk⟩ := Option.map_eq_some_iff.1 he
    obtain ⟨ud, ti, row⟩ := hty t d hd
    have hfit := row.fits; rw [hk] at hfit
    rw [row.und]; exact congrArg some hfit
  split at h
  · rename_i e he _
    refine ⟨_, h, fun w a l cap hc => ⟨fun p q => by simp [eqGuard], ?_⟩⟩
    simp [binOp, run_equal_slice_nil w t e a l cap (hund e he), hc]
  · rename_i e he _
    refine ⟨_, h, fun w a l cap hc => ⟨fun p q => by simp [eqGuard], ?_⟩⟩
    simp [binOp, run_equal_slice_nil w t e a l cap (hund e he), hc]
  · rename_i e; cases e
  · rename_i e; cases e
  · exact h.elim
theorem evNilB_ptr {P : Program} {ty : Ty} (hty : TyOk P ty) {t : TypeId} {op : BinOp} {c : Bool} {K : AV → Prop} (h : evNilB ty t op false c K) : ∃ c', K (tf c') ∧ ∀ (w : World) (a : Option Addr), a.isNone = c →
    (∀ (p q : Operand), (eqGuard op t p q (.pointer a) (.pointer none)).run P w = .ok () w) ∧ (binOp op t (.pointer a) (.pointer none)).run P w = .ok (.bool c') w := by
  unfold evNilB at h
  have hund : ∀ e, (ty t).map TD.k = some (.ptr e) → P.underlying t = some (.pointer e) := by
    intro e he
    obtain ⟨d, hd, hk⟩ := Option.map_eq_some_iff.1 he
    obtain ⟨ud, ti, row⟩ := hty t d hd
    have hfit := row.fits; rw [hk] at hfit
    rw [row.und]; exact congrArg some hfit
  have hrun : ∀ e, P.underlying t = some (.pointer e) → ∀ (w : World) (a : Option Addr), (Op.equal t (.pointer a) (.pointer none)).run P w = .ok a.isNone w := by
    intro e he w a
    have hp : P.underlying t = some (.pointer (P.pointee t)) := by simp [Program.pointee, he]
    exact run_equalIn_pointer_nil w 9999 t a hp
  split at h
  · rename_i e; cases e
  · rename_i e; cases e
  · rename_i e he _
    refine ⟨_, h, fun w a hc => ⟨fun p q => by simp [eqGuard], ?_⟩⟩
    simp [binOp, hrun e (hund e he), hc]
  · rename_i e he _
    refine ⟨_, h, fun w a hc => ⟨fun p q => by simp [eqGuard], ?_⟩⟩
    simp [binOp, hrun e (hund e he), hc]
  · exact h.elim
theorem evBin_ok {P : Program} {ty : Ty} (hty : TyOk P ty) {op : BinOp} {t : TypeId} {x y : AV} {K : AV → Prop} (h : evBin ty op t x y K) :
    ∃ av, K av ∧ ∀ (F Hp : PH) (hs : List Value) (w : World) (u v : Value), Rep F Hp hs x u → Rep F Hp hs y v →
      (∀ (p q : Operand), (eqGuard op t p q u v).run P w = .ok () w) ∧ ∃ r, (binOp op t u v).run P w = .ok r w ∧ Rep F Hp hs av r := by
  unfold evBin at h
  split at h
  · rename_i k a k' b
    have hint : ∀ (H : ∃ r, K (.val r) ∧ ∀ (P : Program) (t : TypeId) (w : World), (binOp op t (.int k a) (.int k' b)).run P w = .ok r w), ∃ av, K av ∧ ∀ (F Hp : PH) (hs : List Value) (w : World) (u v : Value), Rep F Hp hs (.val (.int k a)) u → Rep F Hp hs (.val (.int k' b)) v →
      (∀ (p q : Operand), (eqGuard op t p q u v).run P w = .ok () w) ∧ ∃ r, (binOp op t u v).run P w = .ok r w ∧ Rep F Hp hs av r := by
      rintro ⟨r, hk, hr⟩
      refine ⟨_, hk, fun F Hp hs w u v hu hv => ?_⟩
      cases hu.inv_val; cases hv.inv_val
      exact ⟨fun p q => by rw [eqGuard_at_int op t p q _ _ _]; rfl, r, hr P t w, .val r⟩
    apply hint
    split at h
    · exact ⟨_, h.2, fun P t w => by rw [binOp_shl, shift_shl k k' a b h.1.1 h.1.2]; rfl⟩
    · exact ⟨_, h.2, fun P t w => by rw [binOp_shr, shift_shr k k' a b h.1.1 h.1.2]; rfl⟩
    · split at h
      · rename_i e
        have e := of_decide_eq_true e
        subst e
        exact evBinI_ok h
      · exact h.elim
  · rename_i a b
    have hstr : ∀ (H : ∃ r, K (.val r) ∧ ∀ (P : Program) (t : TypeId) (w : World), (binOp op t (.string a) (.string b)).run P w = .ok r w), ∃ av, K av ∧ ∀ (F Hp : PH) (hs : List Value) (w : World) (u v : Value), Rep F Hp hs (.val (.string a)) u → Rep F Hp hs (.val (.string b)) v →
      (∀ (p q : Operand), (eqGuard op t p q u v).run P w = .ok () w) ∧ ∃ r, (binOp op t u v).run P w = .ok r w ∧ Rep F Hp hs av r := by
      rintro ⟨r, hk, hr⟩
      refine ⟨_, hk, fun F Hp hs w u v hu hv => ?_⟩
      cases hu.inv_val; cases hv.inv_val
      exact ⟨fun p q => by rw [eqGuard_at_string op t p q _ _]; rfl, r, hr P t w, .val r⟩
    apply hstr
    split at h
    · refine ⟨_, h.2, fun P t w => ?_⟩
      have hn : ¬ ((a.size + b.size : Nat) : Int) > IntKind.i64.max := by have := h.1; simp; omega
      simp only [binOp, Op.stringOp, hn, if_false, Sem.run_pure]
    · exact ⟨_, h, fun P t w => by simp only [binOp, Op.stringOp, toList_beq, Sem.run_pure]⟩
    · exact ⟨_, h, fun P t w => by simp only [binOp, Op.stringOp, toList_beq, Sem.run_pure]⟩
    · exact h.elim
  · rename_i xs ys
    split at h
    · rename_i b hag he
      split at hag
      · rename_i td htd
        refine ⟨_, h, fun F Hp hs w u v hu hv => ?_⟩
        obtain ⟨us, rfl, hx⟩ := hu.inv_agg
        obtain ⟨vs, rfl, hy⟩ := hv.inv_agg
        obtain ⟨ud, ti, row⟩ := hty t td htd
        have hg := evEq_guard hty he htd hag
        have hq := evEq_ok hty 5 t xs ys b he td htd 10000 (by omega) F Hp hs w us vs _ _ hx hy ⟨fun _ => rfl, fun e => by rw [hag] at e; cases e⟩ ⟨fun _ => rfl, fun e => by rw [hag] at e; cases e⟩
        exact ⟨fun p q => run_eqGuard_agg w _ t p q _ _ hg, _, by rw [run_eql_struct, hq]; rfl, .val _⟩
      · cases hag
    · rename_i b hag he
      split at hag
      · rename_i td htd
        refine ⟨_, h, fun F Hp hs w u v hu hv => ?_⟩
        obtain ⟨us, rfl, hx⟩ := hu.inv_agg
        obtain ⟨vs, rfl, hy⟩ := hv.inv_agg
        obtain ⟨ud, ti, row⟩ := hty t td htd
        have hg := evEq_guard hty he htd hag
        have hq := evEq_ok hty 5 t xs ys b he td htd 10000 (by omega) F Hp hs w us vs _ _ hx hy ⟨fun _ => rfl, fun e => by rw [hag] at e; cases e⟩ ⟨fun _ => rfl, fun e => by rw [hag] at e; cases e⟩
        exact ⟨fun p q => run_eqGuard_agg w _ t p q _ _ hg, _, by rw [run_neq_struct, hq]; rfl, .val _⟩
      · cases hag
    · exact h.elim
  · rename_i kd xs
    obtain ⟨hpos, h⟩ := h
    obtain ⟨c, hK, hrun⟩ := evNilB_sl hty h
    refine ⟨_, hK, fun F Hp hs w u v hu hv => ?_⟩
    cases hv.inv_val
    cases hu with
    | lt _ _ A cap css h1 h2 h3 h4 h5 =>
      cases A with
      | none => have := h3 rfl; omega
      | some a => obtain ⟨q1, q2⟩ := hrun w (some a) xs.length cap rfl; exact ⟨q1, _, q2, tf_rep _⟩
  · rename_i l c
    obtain ⟨c', hK, hrun⟩ := evNilB_sl hty h
    refine ⟨_, hK, fun F Hp hs w u v hu hv => ?_⟩
    cases hv.inv_val
    cases hu.inv_val
    obtain ⟨q1, q2⟩ := hrun w none l c rfl
    exact ⟨q1, _, q2, tf_rep _⟩
  · rename_i a l c
    obtain ⟨c', hK, hrun⟩ := evNilB_sl hty h
    refine ⟨_, hK, fun F Hp hs w u v hu hv => ?_⟩
    cases hv.inv_val
    cases hu.inv_val
    obtain ⟨q1, q2⟩ := hrun w (some a) l c rfl
    exact ⟨q1, _, q2, tf_rep _⟩
  · rename_i n off
    obtain ⟨c', hK, hrun⟩ := evNilB_ptr hty h
    refine ⟨_, hK, fun F Hp hs w u v hu hv => ?_⟩
    cases hv.inv_val
    cases hu with
    | ptr _ _ b hn =>
      obtain ⟨q1, q2⟩ := hrun w (some ⟨b, off, none⟩) rfl
      exact ⟨q1, _, q2, tf_rep _⟩
  · obtain ⟨c', hK, hrun⟩ := evNilB_ptr hty h
    refine ⟨_, hK, fun F Hp hs w u v hu hv => ?_⟩
    cases hv.inv_val
    cases hu.inv_val
    obtain ⟨q1, q2⟩ := hrun w none rfl
    exact ⟨q1, _, q2, tf_rep _⟩
  · split at h
    · rename_i a b ha hb hb'
      obtain ⟨d, hd, hk⟩ := Option.map_eq_some_iff.1 hb'
      obtain ⟨ud, i, row⟩ := hty t d hd
      have hu' : P.underlying t = some .bool := by
        rw [row.und]; have := row.fits; rw [hk] at this; exact congrArg some this
      refine ⟨_, h, fun F Hp hs w u v hu hv => ?_⟩
      cases bool?_rep ha hu; cases bool?_rep hb hv
      exact ⟨fun p q => by rw [eqGuard_at_bool _ t p q _ _]; rfl, _, by simp [binOp, Op.equal, Op.maxDepth, run_equalIn_bool' w 9999 t a b hu'], .val _⟩
    · rename_i a b ha hb hb'
      obtain ⟨d, hd, hk⟩ := Option.map_eq_some_iff.1 hb'
      obtain ⟨ud, i, row⟩ := hty t d hd
      have hu' : P.underlying t = some .bool := by
        rw [row.und]; have := row.fits; rw [hk] at this; exact congrArg some this
      refine ⟨_, h, fun F Hp hs w u v hu hv => ?_⟩
      cases bool?_rep ha hu; cases bool?_rep hb hv
      exact ⟨fun p q => by rw [eqGuard_at_bool _ t p q _ _]; rfl, _, by simp [binOp, Op.equal, Op.maxDepth, run_equalIn_bool' w 9999 t a b hu', bne], .val _⟩
    · exact h.elim
end Go.Sx
end
section
namespace Go.Sx
open Go

/-! lists that are read -/
def castL {k k' : Kd} (xs : List (El k')) : Option (List (El k)) :=
  match decEq k' k with
  | .isTrue h => some (h ▸ xs)
  | .isFalse _ => none
theorem castL_some {k k' : Kd} {xs : List (El k')} {ys : List (El k)} (h : castL xs = some ys) : ∃ e : k' = k, e ▸ xs = ys := by
  unfold castL at h
  split at h
  · rename_i e _; cases h; exact ⟨e, rfl⟩
  · cases h
theorem castL_self {k : Kd} (xs : List (El k)) : castL (k := k) xs = some xs := by
  unfold castL
  split
  · rfl
  · rename_i h _; exact absurd rfl h
def rdL (M : List Blk) (k : Kd) : AV → Option (List (El k))
  | .sl _ xs => castL xs
  | .lt _ xs => castL xs
  | .val (.slice none 0 0) => some []
  | .val (.slice (some _) 0 _) => some []
  | .own n => match M[n]? with
    | some (.arr _ xs) => castL xs
    | _ => none
  | .es n sz i len _ => match M[n]? with
    | some (.arr _ xs) => match Nat.beq sz (ksz k) with
      | true => match castL (k := k) xs with
        | some xs => some ((xs.drop i).take len)
        | none => none
      | false => none
    | _ => none
  | _ => none
/-- a piece of one's own is within it -/
def rdG (M : List Blk) (x : AV) (G : Prop) : Prop :=
  match x with
  | .es n _ i len _ => match M[n]? with
    | some (.arr _ xs) => i + len ≤ xs.length ∧ G
    | _ => False
  | _ => G
def rdC (M : List Blk) (x : AV) : Prop := ∀ n sz i len c k xs, x = .es n sz i len c → M[n]? = some (.arr k xs) → i + len ≤ xs.length
theorem rdG_ok {M : List Blk} {x : AV} {G : Prop} (h : rdG M x G) : rdC M x ∧ G := by
  unfold rdG at h
  split at h
  · split at h
    · rename_i hm
      refine ⟨fun n sz i len c k xs e h' => ?_, h.2⟩
      cases e
      rw [hm] at h'; cases h'
      exact h.1
    · exact h.elim
  · rename_i hne
    exact ⟨fun n sz i len c k xs e h' => absurd e (hne n sz i len c), h⟩
def slLen (M : List Blk) : AV → Option Nat
  | .sl _ xs => some xs.length
  | .lt _ xs => some xs.length
  | .val (.slice none 0 0) => some 0
  | .val (.slice (some _) 0 _) => some 0
  | .own n => match M[n]? with
    | some (.arr _ xs) => some xs.length
    | _ => none
  | .es _ _ _ len _ => some len
  | _ => none

/-- a slice's cells, in a world -/
def RdW (F Hp : PH) (hs : List Value) (w : World) (k : Kd) (A : Option Addr) (xs : List (El k)) : Prop :=
  ∀ i x, xs[i]? = some x → ∃ cs, Reps F Hp hs (enc k x) cs ∧ ∀ j c, cs[j]? = some c → ∃ a, A = some a ∧ w.cell? (a.add (i * ksz k + j)) = some c

section
variable {P : Program} {w0 : Base P} {w : World} {F Hp : PH} {hs : List Value} {M : List Blk}
theorem cellAt_w {H : PH} {a : Addr} {c : Value} (hp : ∀ b o, H b = some o → w.heap[b]? = some o) (h : cellAt H a = some c) : w.cell? a = some c := by
  unfold cellAt at h
  unfold World.cell?
  cases hb : H a.block with
  | none => rw [hb] at h; cases h
  | some o =>
    rw [hb] at h
    rw [hp _ _ hb]
    cases o <;> first | exact h | cases h
theorem rdAt_w (hi : InvS w0 F Hp hs M w) {a : Addr} {c : Value} (h : rdAt F Hp a c) : w.cell? a = some c :=
  h.elim (cellAt_w hi.perm) (cellAt_w hi.fr)
theorem slLen_ok (hi : InvS w0 F Hp hs M w) {x : AV} {n : Nat} {v : Value} (h : slLen M x = some n) (hr : Rep F Hp hs x v) : ∃ A c, v = .slice A n c := by
  cases x with
  | sl k xs => cases hr; simp [slLen] at h; subst h; exact ⟨_, _, rfl⟩
  | lt k xs => cases hr; simp [slLen] at h; subst h; exact ⟨_, _, rfl⟩
  | val u =>
    cases hr.inv_val
    unfold slLen at h
    split at h <;> first | (cases h; rename_i e; cases e; exact ⟨_, _, rfl⟩) | (exfalso; simp_all; done) | (simp at h)
  | own m =>
    cases hr with
    | own _ _ hn =>
      simp only [slLen] at h
      split at h
      · rename_i k xs hm
        cases h
        obtain ⟨A, cap, rfl, _⟩ := hi.blk m _ v hm hn
        exact ⟨_, _, rfl⟩
      · cases h
  | es m sz i len cap => cases hr; simp [slLen] at h; subst h; exact ⟨_, _, rfl⟩
  | _ => simp [slLen] at h
theorem elCells_get {c : List Value} {sz i j : Nat} (hj : j < sz) : (elCells c sz i)[j]? = c[i * sz + j]? := by
  unfold elCells
  rw [List.getElem?_take, if_pos hj, List.getElem?_drop]
theorem elCells_len {c : List Value} {sz i : Nat} {j : Nat} {v : Value} (h : (elCells c sz i)[j]? = some v) : j < sz := by
  have := (List.getElem?_eq_some_iff.1 h).1
  unfold elCells at this
  rw [List.length_take] at this
  omega
theorem arr_rd {k : Kd} {xs : List (El k)} {v : Value} (hb : BlkAt F Hp hs w v (.arr k xs)) : ∃ A cap, v = .slice A xs.length cap ∧ RdW F Hp hs w k A xs := by
  obtain ⟨A, cap, rfl, h1, h2, h3, h4⟩ := hb
  refine ⟨A, cap, rfl, fun i x hx => ?_⟩
  have hi : i < xs.length := (List.getElem?_eq_some_iff.1 hx).1
  cases A with
  | none => have := h3 rfl; omega
  | some a =>
    obtain ⟨b, T, c, rfl, g1, g2, g3⟩ := h4 a rfl
    refine ⟨_, g3 i x hx, fun j u hu => ⟨_, rfl, ?_⟩⟩
    have hj := elCells_len hu
    rw [elCells_get hj] at hu
    rw [Addr.add_lit]
    simp only [World.cell?, g1]
    simpa using hu
theorem rdL_ok (hi : InvS w0 F Hp hs M w) {k : Kd} {x : AV} {xs : List (El k)} {v : Value} (h : rdL M k x = some xs) (hrc : rdC M x) (hr : Rep F Hp hs x v) :
    ∃ A c, v = .slice A xs.length c ∧ RdW F Hp hs w k A xs := by
  cases x with
  | sl k' xs' =>
    obtain ⟨e, rfl⟩ := castL_some h
    subst e
    cases hr with
    | sl _ _ A cap css h1 h2 h3 h4 h5 =>
      exact ⟨A, cap, rfl, fun i x hx => ⟨_, h4 i x hx, fun j c hc => let ⟨a, ea, hg⟩ := h5 i x j c hx hc; ⟨a, ea, cellAt_w hi.perm hg⟩⟩⟩
  | lt k' xs' =>
    obtain ⟨e, rfl⟩ := castL_some h
    subst e
    cases hr with
    | lt _ _ A cap css h1 h2 h3 h4 h5 =>
      exact ⟨A, cap, rfl, fun i x hx => ⟨_, h4 i x hx, fun j c hc => let ⟨a, ea, hg⟩ := h5 i x j c hx hc; ⟨a, ea, rdAt_w hi hg⟩⟩⟩
  | val u =>
    cases hr.inv_val
    unfold rdL at h
    split at h <;> first | (cases h; rename_i e; cases e; exact ⟨_, _, rfl, fun i x hx => by simp at hx⟩) | (exfalso; simp_all; done) | (simp at h)
  | own m =>
    cases hr with
    | own _ _ hn =>
      simp only [rdL] at h
      split at h
      · rename_i k' xs' hm
        obtain ⟨e, rfl⟩ := castL_some h
        subst e
        exact arr_rd (hi.blk m _ v hm hn)
      · cases h
  | es m sz i len cap =>
    cases hr with
    | es _ _ _ _ _ b l c A c' hn hlc hc hA hA0 =>
      simp only [rdL] at h
      split at h
      · rename_i k' xs' hm
        split at h
        · rename_i hsz
          have hsz : sz = ksz k := Nat.eq_of_beq_eq_true hsz
          split at h
          · rename_i xs'' hcast
            obtain ⟨e, rfl⟩ := castL_some hcast
            subst e
            · have hle := hrc m sz i len cap k' xs' rfl hm
              cases h
              obtain ⟨A', cap', hv, hrd⟩ := arr_rd (hi.blk m _ _ hm hn)
              have hlen : ((xs'.drop i).take len).length = len := by
                rw [List.length_take, List.length_drop]
                have : i + len ≤ xs'.length := hle
                omega
              refine ⟨A, c', by rw [hlen], fun j x hx => ?_⟩
              have hj : j < len := by rw [← hlen]; exact (List.getElem?_eq_some_iff.1 hx).1
              rw [List.getElem?_take, if_pos hj, List.getElem?_drop] at hx
              obtain ⟨cs, h1, h2⟩ := hrd _ _ hx
              refine ⟨cs, h1, fun q u hu => ?_⟩
              obtain ⟨a, ea, hcell⟩ := h2 q u hu
              cases hv
              cases ea
              refine ⟨_, hA (by omega), ?_⟩
              rw [Addr.add_lit] at hcell ⊢
              rw [hsz]
              rw [show i * ksz k' + (j * ksz k' + q) = 0 + ((i + j) * ksz k' + q) by rw [Nat.add_mul]; omega]
              exact hcell
          · cases h
        · cases h
      · cases h
  | _ => simp [rdL] at h
end
end Go.Sx
end
section
namespace Go.Sx
open Go

variable {P : Program}
/-- whatever stands behind the operands: the operation tells 'av', and leaves what is owned alone -/
def OpOk (P : Program) (o : Oper) (ρ : Operand → AV) (M : List Blk) (av : AV) : Prop :=
  ∀ (w0 : Base P) F Hp hs w (ev : Operand → Value), InvS w0 F Hp hs M w → (∀ x, Rep F Hp hs (ρ x) (ev x)) →
    ∃ v Hp' w', (execOp ev o).run P w = .ok (.value v) w' ∧ Hp.le Hp' ∧ InvS w0 F Hp' hs M w' ∧ Rep F Hp' hs av v
/-- the operation tells 'av', and leaves the world alone -/
def OpPure (P : Program) (o : Oper) (ρ : Operand → AV) (M : List Blk) (av : AV) : Prop :=
  ∀ (w0 : Base P) F Hp hs w (ev : Operand → Value), InvS w0 F Hp hs M w → (∀ x, Rep F Hp hs (ρ x) (ev x)) → ∃ v, (execOp ev o).run P w = .ok (.value v) w ∧ Rep F Hp hs av v
theorem OpOk.pure {o : Oper} {ρ : Operand → AV} {M : List Blk} {av : AV}
    (h : ∀ (w0 : Base P) F Hp hs w (ev : Operand → Value), InvS w0 F Hp hs M w → (∀ x, Rep F Hp hs (ρ x) (ev x)) → ∃ v, (execOp ev o).run P w = .ok (.value v) w ∧ Rep F Hp hs av v) : OpOk P o ρ M av :=
  fun w0 F Hp hs w ev hi hr => let ⟨v, h1, h2⟩ := h w0 F Hp hs w ev hi hr; ⟨v, Hp, w, h1, PH.le.refl _, hi, h2⟩

def evPick (c a b : AV) (K : AV → Prop) : Prop :=
  match c with
  | .tt => K a
  | .ff => K b
  | .val (.bool t) => (t = true → K a) ∧ (t = false → K b)
  | _ => False
def evUn (op : UnOp) (x : AV) (K : AV → Prop) : Prop :=
  match op, x with
  | .not, .tt => K .ff
  | .not, .ff => K .tt
  | .not, .val (.bool b) => K (.val (.bool (!b)))
  | .neg, .val (.int k n) => K (.val (.int k (k.wrap (0 - n))))
  | _, _ => False
def strBytes (xs : List Int) : ByteArray := ⟨(xs.map fun n => UInt8.ofNat n.toNat).toArray⟩
def strRunes (xs : List Int) : ByteArray := xs.foldl (fun s n => s ++ Utf8.encode n) ByteArray.empty
def evConv (ty : Ty) (M : List Blk) (src dst : TypeId) (x : AV) (K : AV → Prop) : Prop :=
  match ty src, ty dst with
  | some ds, some dd => match dd.k, x with
    | .int k, .val (.int _ n) => K (.val (.int k (k.wrap n)))
    | .str, .val (.int _ n) => K (.val (.string (Utf8.encode n)))
    | .str, .val (.string s) => K (.val (.string s))
    | .str, x => match ds.k with
      | .slice e => match ty e with
        | some de => match de.k with
          | .int .u8 => match rdL M (.int .u8) x with
            | some xs => rdG M x (K (.val (.string (strBytes xs))))
            | none => False
          | .int .i32 => match rdL M (.int .i32) x with
            | some xs => rdG M x (K (.val (.string (strRunes xs))))
            | none => False
          | _ => False
        | none => False
      | _ => False
    | _, _ => False
  | _, _ => False
def evField (ty : Ty) (t : TypeId) (x : AV) (f : Nat) (K : AV → Prop) : Prop :=
  match ty t, x with
  | some d, .agg cs => match d.k with
    | .strct fs => match fs[f]? with
      | some (off, ft) => match ty ft with
        | some df => cut df.k.agg df.size off cs K
        | none => False
      | none => False
    | _ => False
  | _, _ => False
def evFieldAddr (ty : Ty) (t : TypeId) (x : AV) (f : Nat) (K : AV → Prop) : Prop :=
  match ty t with
  | some d => match d.k with
    | .strct fs => match fs[f]? with
      | some (off, ft) => match ty ft with
        | some df => match Nat.beq df.size 0 with
          | true => False
          | false => match x with
            | .ptr n o => K (.ptr n (o + off))
            | .ep n sz i o => K (.ep n sz i (o + off))
            | .rp cs o => K (.rp cs (o + off))
            | _ => False
        | none => False
      | none => False
    | _ => False
  | none => False
def evExtract (x : AV) (i : Nat) (K : AV → Prop) : Prop :=
  match x with
  | .tup vs => match vs[i]? with
    | some v => K v
    | none => False
  | _ => False
def AV.isNil : AV → Bool
  | .val (.pointer none) => true
  | .val .nilIface => true
  | .val .nilFunc => true
  | .val (.func _ _ _) => true
  | .ptr _ _ | .ep .. | .rp .. | .es .. | .sl .. => false
  | _ => true
def evNil (x : AV) (K : AV → Prop) : Prop :=
  match x with
  | .ptr .. | .ep .. | .rp .. => K x
  | _ => False
def evIndex (ty : Ty) (t : TypeId) (x i : AV) (K : AV → Prop) : Prop :=
  match ty t with
  | some d => match d.k, x, i with
    | .str, .val (.string s), .val (.int _ n) => (0 ≤ n ∧ n < s.size) ∧ K (.val (.int .u8 (bt s n.toNat)))
    | _, _, _ => False
  | none => False
/-- the cells of an element, of an event case by case -/
def evEl (k : Kd) (y : El k) (J : List AV → Prop) : Prop :=
  match k, y, J with
  | .vev a b c d, y, J => (∀ r, y = Vev.printed r → J [.ifc a (.i r)]) ∧ (∀ x, y = Vev.control x → J [.ifc b (.int .u8 x)]) ∧
      (∀ csi last ps inter, y = Vev.sequence csi last ps inter → J [.ifc c (.agg [.b csi, .int .u8 last, .sl (.int .i64) ps, .s inter])]) ∧
      (∀ s, y = Vev.osc s → J [.ifc d (.s s)])
  | k, y, J => J (enc k y)
theorem evEl_ok {k : Kd} {y : El k} {J : List AV → Prop} (h : evEl k y J) : J (enc k y) := by
  cases k with
  | vev a b c d =>
    obtain ⟨h1, h2, h3, h4⟩ := h
    cases y with
    | printed r => exact h1 r rfl
    | control x => exact h2 x rfl
    | sequence a b c d => exact h3 a b c d rfl
    | osc s => exact h4 s rfl
  | _ => exact h
def evIndexAddr (ty : Ty) (M : List Blk) (t : TypeId) (x i : AV) (K : AV → Prop) : Prop :=
  match ty t with
  | some d => match d.k with
    | .slice e => match ty e, i with
      | some de, .val (.int _ n) => match x with
        | .sl k xs => match Nat.beq de.size (ksz k) with
          | true => (0 ≤ n ∧ n < xs.length) ∧ evEl k (gt k xs n.toNat) fun cs => K (.rp cs 0)
          | false => False
        | .lt k xs => match Nat.beq de.size (ksz k) with
          | true => (0 ≤ n ∧ n < xs.length) ∧ evEl k (gt k xs n.toNat) fun cs => K (.rp cs 0)
          | false => False
        | .own m => match M[m]? with
          | some (.arr k xs) => match Nat.beq de.size (ksz k) with
            | true => (0 ≤ n ∧ n < xs.length) ∧ K (.ep m (ksz k) n.toNat 0)
            | false => False
          | _ => False
        | .es m sz j len _ => match Nat.beq de.size sz with
          | true => (0 ≤ n ∧ n < len) ∧ K (.ep m sz (j + n.toNat) 0)
          | false => False
        | _ => False
      | _, _ => False
    | _ => False
  | none => False
def evLoad (ty : Ty) (M : List Blk) (t : TypeId) (x : AV) (K : AV → Prop) : Prop :=
  match ty t with
  | some d => match x with
    | .ptr n off => match M[n]? with
      | some (.flat cs) => cut d.k.agg d.size off cs K
      | _ => False
    | .ep n sz i off => match M[n]? with
      | some (.arr k xs) => match Nat.beq sz (ksz k) with
        | true => i < xs.length ∧ evEl k (gt k xs i) fun cs => cut d.k.agg d.size off cs K
        | false => False
      | _ => False
    | .rp cs off => cut d.k.agg d.size off cs K
    | _ => False
  | none => False
def evMx (op : Bool) (xs : List AV) (K : AV → Prop) : Prop :=
  match op, xs with
  | true, [.val (.int k a), .val (.int _ b)] => K (.val (.int k (max a b)))
  | false, [.val (.int k a), .val (.int _ b)] => K (.val (.int k (min a b)))
  | true, [.val (.int k a), .val (.int _ b), .val (.int _ c)] => K (.val (.int k (max (max a b) c)))
  | false, [.val (.int k a), .val (.int _ b), .val (.int _ c)] => K (.val (.int k (min (min a b) c)))
  | _, _ => False
def evLen (ty : Ty) (M : List Blk) (t : TypeId) (x : AV) (K : AV → Prop) : Prop :=
  match ty t with
  | some d => match d.k, x with
    | .str, .val (.string s) => K (.val (.int .i64 s.size))
    | .slice _, x => match slLen M x with
      | some n => K (.val (.int .i64 n))
      | none => False
    | _, _ => False
  | none => False
def optI : Option AV → Option (Option Int)
  | none => some none
  | some (.val (.int _ n)) => some (some n)
  | some _ => none
def evSlice (ty : Ty) (M : List Blk) (t : TypeId) (x : AV) (lo hi mx : Option AV) (K : AV → Prop) : Prop :=
  match ty t, optI lo, optI hi, optI mx with
  | some d, some lo, some hi, some mx => match d.k, x with
    | .str, .val (.string s) => match mx with
      | none => (0 ≤ lo.getD 0 ∧ lo.getD 0 ≤ hi.getD s.size ∧ hi.getD s.size ≤ s.size) ∧ K (.val (.string (s.extract (lo.getD 0).toNat (hi.getD s.size).toNat)))
      | some _ => False
    | .slice e, .sl k xs => match mx, ty e with
      | none, some de => match Nat.beq de.size (ksz k) with
        | true => (0 ≤ lo.getD 0 ∧ lo.getD 0 ≤ hi.getD xs.length ∧ hi.getD xs.length ≤ xs.length) ∧ K (.sl k ((xs.drop (lo.getD 0).toNat).take ((hi.getD xs.length).toNat - (lo.getD 0).toNat)))
        | false => False
      | _, _ => False
    | .slice e, .lt k xs => match mx, ty e with
      | none, some de => match Nat.beq de.size (ksz k) with
        | true => (0 ≤ lo.getD 0 ∧ lo.getD 0 ≤ hi.getD xs.length ∧ hi.getD xs.length ≤ xs.length) ∧ K (.lt k ((xs.drop (lo.getD 0).toNat).take ((hi.getD xs.length).toNat - (lo.getD 0).toNat)))
        | false => False
      | _, _ => False
    | .slice e, .own m => match M[m]?, ty e with
      | some (.arr k xs), some de => match Nat.beq de.size (ksz k) with
        | true => match mx with
          | none => (0 < xs.length ∧ 0 ≤ lo.getD 0 ∧ lo.getD 0 ≤ hi.getD xs.length ∧ hi.getD xs.length ≤ xs.length) ∧ K (.es m (ksz k) (lo.getD 0).toNat ((hi.getD xs.length).toNat - (lo.getD 0).toNat) none)
          | some c => (hi.isSome = true ∧ 0 < xs.length ∧ 0 ≤ lo.getD 0 ∧ lo.getD 0 ≤ hi.getD xs.length ∧ hi.getD xs.length ≤ c ∧ c ≤ xs.length) ∧ K (.es m (ksz k) (lo.getD 0).toNat ((hi.getD xs.length).toNat - (lo.getD 0).toNat) (some (c.toNat - (lo.getD 0).toNat)))
        | false => False
      | _, _ => False
    | .slice e, .es m sz i len cap => match mx, ty e with
      | none, some de => match Nat.beq de.size sz with
        | true => (0 ≤ lo.getD 0 ∧ lo.getD 0 ≤ hi.getD len ∧ hi.getD len ≤ len) ∧ K (.es m sz (i + (lo.getD 0).toNat) ((hi.getD len).toNat - (lo.getD 0).toNat) (cap.map (· - (lo.getD 0).toNat)))
        | false => False
      | _, _ => False
    | _, _ => False
  | _, _, _, _ => False
def putL : Nat → List AV → List AV → List AV
  | _, [], l => l
  | off, x :: xs, l => putL (off + 1) xs (l.set off x)
def AV.cells : AV → List AV
  | .agg cs => cs
  | .val (.agg _) => []
  | .top => []
  | x => [x]
def fillL (ty : Ty) (fs : List (Nat × TypeId)) : List AV → List (Nat × AV) → Option (List AV)
  | l, [] => some l
  | l, (i, x) :: r => match fs[i]? with
    | some (off, ft) => match ty ft with
      | some df => match Nat.beq x.cells.length df.size, Nat.ble (off + df.size) l.length, Nat.ble 1 df.size with
        | true, true, true => fillL ty fs (putL off x.cells l) r
        | _, _, _ => none
      | none => none
    | none => none
def evBuild (ty : Ty) (t : TypeId) (parts : List (Nat × AV)) (K : AV → Prop) : Prop :=
  match ty t with
  | some d => match d.k with
    | .strct fs => match fs.all (fun p => (ty p.2).isSome) with
      | true => match fillL ty fs (d.zero.map .val) parts with
        | some cs => K (.agg cs)
        | none => False
      | false => False
    | _ => False
  | none => False
def evR (ty : Ty) (op : Op) (ρ : Operand → AV) (M : List Blk) (K : AV → Prop) : Prop :=
  match op with
  | .move x | .assign x => K (ρ x)
  | .pick c a b => evPick (ρ c) (ρ a) (ρ b) K
  | .binOp op t x y _ => evBin ty op t (ρ x) (ρ y) K
  | .unOp op _ x => evUn op (ρ x) K
  | .convert src dst x => evConv ty M src dst (ρ x) K
  | .field t x f => evField ty t (ρ x) f K
  | .fieldAddr t x f => evFieldAddr ty t (ρ x) f K
  | .extract x i => evExtract (ρ x) i K
  | .nilCheck x => evNil (ρ x) K
  | .index t x i => evIndex ty t (ρ x) (ρ i) K
  | .indexAddr t x i => evIndexAddr ty M t (ρ x) (ρ i) K
  | .load t x => evLoad ty M t (ρ x) K
  | .slice t x lo hi mx => evSlice ty M t (ρ x) (lo.map ρ) (hi.map ρ) (mx.map ρ) K
  | .build t parts => evBuild ty t (parts.toList.map fun (i, x) => (i, ρ x)) K
  | .call { callee := .builtin b, args := xs, argTypes := ts } => match b with
    | .len => match ts.toList, xs.toList with
      | [t], [x] => evLen ty M t (ρ x) K
      | _, _ => False
    | .max => evMx true (xs.toList.map ρ) K
    | .min => evMx false (xs.toList.map ρ) K
    | _ => False
  | _ => False
end Go.Sx
end
section
namespace Go.Sx
open Go
variable {P : Program} {ty : Ty}

theorem cut_ok {agg : Bool} {size off : Nat} {cs : List AV} {K : AV → Prop} (h : cut agg size off cs K) :
    ∃ av, K av ∧ ∀ F Hp hs vs, Reps F Hp hs cs vs → ∃ v, Rep F Hp hs av v ∧
      (agg = true → v = .agg ((vs.drop off).take size).toArray ∧ off + size ≤ vs.length) ∧ (agg = false → vs[off]? = some v) := by
  unfold cut at h
  split at h
  · split at h
    · rename_i hle
      have hle := Nat.le_of_ble_eq_true hle
      refine ⟨_, h, fun F Hp hs vs hr => ⟨_, .agg _ _ ((hr.drop off).take size), fun _ => ⟨rfl, by rw [← hr.length]; exact hle⟩, fun e => by cases e⟩⟩
    · exact h.elim
  · split at h
    · rename_i c hc
      refine ⟨_, h, fun F Hp hs vs hr => ?_⟩
      obtain ⟨v, h1, h2⟩ := hr.get _ _ hc
      exact ⟨v, h2, (fun e => by cases e), fun _ => h1⟩
    · exact h.elim

/-- how a variable at an address is loaded -/
theorem run_loadVar_at {t : TypeId} {d : TD} {u : TypeDesc} {i : TypeInfo} (row : TyRow P t d u i) {w : World} {a : Addr} {v : Value} {vs : List Value} {off : Nat}
    (hc : ∀ j c, vs[j]? = some c → w.cell? (a.add j) = some c) (h1 : d.k.agg = true → v = .agg ((vs.drop off).take d.size).toArray ∧ off + d.size ≤ vs.length) (h2 : d.k.agg = false → vs[off]? = some v) :
    (loadVar t (a.add off)).run P w = .ok v w := by
  have hadd : ∀ j, (a.add off).add j = a.add (off + j) := by
    intro j
    unfold Addr.add
    by_cases ho : off = 0 <;> by_cases hj : j = 0 <;> simp [ho, hj, Nat.add_assoc]
  unfold loadVar
  simp only [Sem.run_bind, row.run_isAgg, Result.andThen_ok]
  cases hag : d.k.agg with
  | true =>
    obtain ⟨rfl, hle⟩ := h1 hag
    simp only [if_true, Sem.run_bind, row.run_size, Result.andThen_ok]
    have hl : ((vs.drop off).take d.size).length = d.size := by
      rw [List.length_take, List.length_drop]; omega
    have := run_loadCells_list (P := P) (w := w) (a.add off) ((vs.drop off).take d.size) (fun j c hj => by
      have hjl : j < d.size := by rw [← hl]; exact (List.getElem?_eq_some_iff.1 hj).1
      rw [hadd]
      rw [List.getElem?_take, if_pos hjl, List.getElem?_drop] at hj
      exact hc _ _ hj)
    rw [hl] at this
    rw [this]; rfl
  | false =>
    have := hc off v (h2 hag)
    simp [this]

theorem evPick_ok {c a b : AV} {K : AV → Prop} (h : evPick c a b K) :
    ∃ av, K av ∧ ∀ F Hp hs u x y, Rep F Hp hs c u → Rep F Hp hs a x → Rep F Hp hs b y → ∃ t : Bool, u = .bool t ∧ Rep F Hp hs av (if t then x else y) := by
  unfold evPick at h
  split at h
  · exact ⟨_, h, fun F Hp hs u x y hu hx hy => ⟨true, hu.inv_tt, hx⟩⟩
  · exact ⟨_, h, fun F Hp hs u x y hu hx hy => ⟨false, hu.inv_ff, hy⟩⟩
  · rename_i t
    cases t with
    | true => exact ⟨_, h.1 rfl, fun F Hp hs u x y hu hx hy => ⟨true, hu.inv_val, hx⟩⟩
    | false => exact ⟨_, h.2 rfl, fun F Hp hs u x y hu hx hy => ⟨false, hu.inv_val, hy⟩⟩
  · exact h.elim
theorem evUn_ok {op : UnOp} {x : AV} {K : AV → Prop} (h : evUn op x K) :
    ∃ av, K av ∧ ∀ (P : Program) F Hp hs w u, Rep F Hp hs x u → ∃ v, (Op.unary op u).run P w = .ok v w ∧ Rep F Hp hs av v := by
  unfold evUn at h
  split at h
  · exact ⟨_, h, fun P F Hp hs w u hu => by cases hu.inv_tt; exact ⟨_, rfl, .ff⟩⟩
  · exact ⟨_, h, fun P F Hp hs w u hu => by cases hu.inv_ff; exact ⟨_, rfl, .tt⟩⟩
  · exact ⟨_, h, fun P F Hp hs w u hu => by cases hu.inv_val; exact ⟨_, rfl, .val _⟩⟩
  · exact ⟨_, h, fun P F Hp hs w u hu => by cases hu.inv_val; exact ⟨_, rfl, .val _⟩⟩
  · exact h.elim
theorem evField_ok (hty : TyOk P ty) {t : TypeId} {x : AV} {f : Nat} {K : AV → Prop} (h : evField ty t x f K) :
    ∃ av, K av ∧ ∀ F Hp hs w u, Rep F Hp hs x u → ∃ v, (Instr.field t u f).run P w = .ok v w ∧ Rep F Hp hs av v := by
  unfold evField at h
  split at h
  · rename_i d cs hd
    split at h
    · rename_i fs hk
      split at h
      · rename_i off ft hf
        split at h
        · rename_i df hdf
          obtain ⟨av, hK, hav⟩ := cut_ok h
          refine ⟨av, hK, fun F Hp hs w u hu => ?_⟩
          obtain ⟨vs, rfl, hvs⟩ := hu.inv_agg
          obtain ⟨v, hv, h1, h2⟩ := hav F Hp hs vs hvs
          obtain ⟨ud, i, row⟩ := hty t d hd
          obtain ⟨uf, fi, frow⟩ := hty ft df hdf
          have hfit := row.fits
          rw [hk] at hfit
          obtain ⟨fields, rfl, hfields⟩ := hfit
          have hfield : ∃ fl, fields[f]? = some fl ∧ fl.offset = off ∧ fl.type = ft := by
            rw [← hfields, List.getElem?_map] at hf
            obtain ⟨fl, e1, e2⟩ := Option.map_eq_some_iff.1 hf
            rw [Array.getElem?_toList] at e1
            cases e2
            exact ⟨fl, e1, rfl, rfl⟩
          obtain ⟨fl, e1, rfl, rfl⟩ := hfield
          refine ⟨v, ?_, hv⟩
          simp only [Instr.field, Sem.run_bind, row.run_und, Result.andThen_ok, e1, asAgg, Sem.run_pure, part, frow.run_isAgg]
          cases hag : df.k.agg with
          | true =>
            obtain ⟨rfl, hle⟩ := h1 hag
            simp only [if_true, Sem.run_bind, frow.run_size, Result.andThen_ok, Sem.run_pure]
            congr 2
            simp
          | false =>
            have := h2 hag
            simp [this]
        · exact h.elim
      · exact h.elim
    · exact h.elim
  · exact h.elim
theorem evFieldAddr_ok (hty : TyOk P ty) {t : TypeId} {x : AV} {f : Nat} {K : AV → Prop} (h : evFieldAddr ty t x f K) :
    ∃ av, K av ∧ ∀ F Hp hs w u, Rep F Hp hs x u → ∃ v, (Instr.fieldAt t u f).run P w = .ok v w ∧ Rep F Hp hs av v := by
  unfold evFieldAddr at h
  split at h
  · rename_i d hd
    split at h
    · rename_i fs hk
      split at h
      · rename_i off ft hf
        split at h
        · rename_i df hdf
          split at h
          · exact h.elim
          · rename_i hz
            have hz : df.size ≠ 0 := Nat.ne_of_beq_eq_false hz
            obtain ⟨ud, i, row⟩ := hty t d hd
            obtain ⟨uf, fi, frow⟩ := hty ft df hdf
            have hfit := row.fits
            rw [hk] at hfit
            obtain ⟨fields, rfl, hfields⟩ := hfit
            have hfield : ∃ fl, fields[f]? = some fl ∧ fl.offset = off ∧ fl.type = ft := by
              rw [← hfields, List.getElem?_map] at hf
              obtain ⟨fl, e1, e2⟩ := Option.map_eq_some_iff.1 hf
              rw [Array.getElem?_toList] at e1
              cases e2
              exact ⟨fl, e1, rfl, rfl⟩
            obtain ⟨fl, e1, rfl, rfl⟩ := hfield
            have hrun : ∀ w a, (Instr.fieldAt t (.pointer (some a)) f).run P w = .ok (.pointer (some (a.add fl.offset))) w := by
              intro w a
              simp [Instr.fieldAt, row.run_und, e1, Instr.sureAddr, fieldPlace, frow.run_size, hz]
            have hadd : ∀ (a : Addr) j k, (a.add j).add k = a.add (j + k) := by
              intro a j k
              unfold Addr.add
              by_cases ho : j = 0 <;> by_cases hj : k = 0 <;> simp [ho, hj, Nat.add_assoc]
            split at h
            · refine ⟨_, h, fun F Hp hs w u hu => ?_⟩
              cases hu with
              | ptr n o b hn => exact ⟨_, hrun w _, by rw [Addr.add_lit]; exact .ptr _ _ b hn⟩
            · refine ⟨_, h, fun F Hp hs w u hu => ?_⟩
              cases hu with
              | ep n sz i o b l c hn => exact ⟨_, hrun w _, by rw [Addr.add_lit, Nat.add_assoc]; exact .ep _ _ _ _ b l c hn⟩
            · refine ⟨_, h, fun F Hp hs w u hu => ?_⟩
              cases hu with
              | rp cs o a vs hr hc => exact ⟨_, hrun w _, by rw [hadd]; exact .rp _ _ a vs hr hc⟩
            · exact h.elim
        · exact h.elim
      · exact h.elim
    · exact h.elim
  · exact h.elim
theorem evExtract_ok {x : AV} {i : Nat} {K : AV → Prop} (h : evExtract x i K) :
    ∃ av, K av ∧ ∀ (P : Program) F Hp hs w u, Rep F Hp hs x u → ∃ v, (Instr.extract u i).run P w = .ok v w ∧ Rep F Hp hs av v := by
  unfold evExtract at h
  split at h
  · split at h
    · rename_i v hv
      refine ⟨_, h, fun P F Hp hs w u hu => ?_⟩
      obtain ⟨vs, rfl, hvs⟩ := hu.inv_tup
      obtain ⟨v', h1, h2⟩ := hvs.get _ _ hv
      exact ⟨v', by simp [Instr.extract, h1], h2⟩
    · exact h.elim
  · exact h.elim
theorem evNil_ok {x : AV} {K : AV → Prop} (h : evNil x K) : K x ∧ ∀ F Hp hs u, Rep F Hp hs x u → ∃ a, u = .pointer (some a) := by
  unfold evNil at h
  split at h
  · exact ⟨h, fun F Hp hs u hu => by cases hu; exact ⟨_, rfl⟩⟩
  · exact ⟨h, fun F Hp hs u hu => by cases hu; exact ⟨_, rfl⟩⟩
  · exact ⟨h, fun F Hp hs u hu => by cases hu; exact ⟨_, rfl⟩⟩
  · exact h.elim
theorem evIndex_ok (hty : TyOk P ty) {t : TypeId} {x i : AV} {K : AV → Prop} (h : evIndex ty t x i K) :
    ∃ av, K av ∧ ∀ F Hp hs w u j, Rep F Hp hs x u → Rep F Hp hs i j → ∃ v, (Instr.index t u j).run P w = .ok v w ∧ Rep F Hp hs av v := by
  unfold evIndex at h
  split at h
  · rename_i d hd
    split at h
    · rename_i s k n hk
      refine ⟨_, h.2, fun F Hp hs w u j hu hj => ?_⟩
      cases hu.inv_val; cases hj.inv_val
      obtain ⟨ud, ti, row⟩ := hty t d hd
      have hfit := row.fits
      rw [hk] at hfit
      have hfit : ud = .string := hfit
      subst hfit
      refine ⟨_, ?_, .val _⟩
      have hlt : n.toNat < s.size := by have := h.1; omega
      simp only [Instr.index, asIntOf, Sem.run_bind, Sem.run_pure, Result.andThen_ok, row.run_und, h.1.1, if_true]
      have : s[n.toNat]? = some s[n.toNat] := by simp [getElem?, decidableGetElem?, hlt]
      rw [this]
      simp only [Sem.run_pure]
      congr 2
      unfold bt
      have h2 : s.data.toList[n.toNat]? = some s[n.toNat] := by
        rw [Array.getElem?_toList]
        have hlt' : n.toNat < s.data.size := hlt
        rw [Array.getElem?_eq_getElem hlt']; rfl
      rw [h2]; rfl
    · exact h.elim
  · exact h.elim
end Go.Sx
end
section
namespace Go.Sx
open Go
variable {P : Program} {ty : Ty}

theorem Addr.add_add (a : Addr) (j k : Nat) : (a.add j).add k = a.add (j + k) := by
  unfold Addr.add
  by_cases ho : j = 0 <;> by_cases hj : k = 0 <;> simp [ho, hj, Nat.add_assoc]

/-- numbers of a list's cells -/
theorem RdW.ints {F Hp : PH} {hs : List Value} {w : World} {k : IntKind} {A : Option Addr} {xs : List Int} (h : RdW F Hp hs w (.int k) A xs) :
    ∀ j c, (xs.map (Value.int k))[j]? = some c → ∃ a, A = some a ∧ w.cell? (a.add j) = some c := by
  intro j c hc
  rw [List.getElem?_map] at hc
  obtain ⟨x, hx, rfl⟩ := Option.map_eq_some_iff.1 hc
  obtain ⟨cs, h1, h2⟩ := h j x hx
  obtain ⟨u, v', rfl, h3, h4⟩ := Reps.inv_cons h1
  cases h4.inv_nil
  cases h3.inv_val
  obtain ⟨a, rfl, h5⟩ := h2 0 _ rfl
  exact ⟨a, rfl, by simpa [ksz] using h5⟩
theorem run_loadInts {F Hp : PH} {hs : List Value} {w : World} {k : IntKind} {a : Addr} {xs : List Int} (h : RdW F Hp hs w (.int k) (some a) xs) :
    (loadCells a xs.length).run P w = .ok (xs.map (Value.int k)).toArray w := by
  have := run_loadCells_list (P := P) (w := w) a (xs.map (Value.int k)) (fun j c hj => by
    obtain ⟨a', e, g⟩ := h.ints j c hj
    cases e; exact g)
  simpa using this
theorem run_forInts (w : World) {β : Type} (k : IntKind) (f : Value → β → Sem (ForInStep β)) (g : β → Int → β) (hf : ∀ n r, f (.int k n) r = pure (.yield (g r n))) : ∀ (xs : List Int) (s : β),
    (forIn (m := Sem) (xs.map (Value.int k)).toArray s f).run P w = .ok (xs.foldl g s) w := by
  intro xs s
  rw [← Array.forIn_toList]
  induction xs generalizing s with
  | nil => simp
  | cons x xs ih =>
    simp only [List.map_cons, List.forIn_cons, hf, Sem.run_bind, Sem.run_pure, Result.andThen_ok]
    rw [ih]; rfl
theorem strBytes_eq (xs : List Int) : ∀ s : ByteArray, xs.foldl (fun s n => s.push (UInt8.ofNat n.toNat)) s = ⟨s.data ++ (xs.map fun n => UInt8.ofNat n.toNat).toArray⟩ := by
  induction xs with
  | nil => intro s; simp
  | cons x xs ih =>
    intro s
    rw [List.foldl_cons, ih]
    apply ByteArray.ext
    simp [ByteArray.push]

theorem evConv_ok (hty : TyOk P ty) {M : List Blk} {src dst : TypeId} {x : AV} {K : AV → Prop} (h : evConv ty M src dst x K) :
    ∃ av, K av ∧ ∀ (w0 : Base P) F Hp hs w u, InvS w0 F Hp hs M w → Rep F Hp hs x u → ∃ v, (convert src dst u).run P w = .ok v w ∧ Rep F Hp hs av v := by
  unfold evConv at h
  split at h
  · rename_i ds dd hs' hd'
    obtain ⟨us, is, srow⟩ := hty src ds hs'
    obtain ⟨ud, idd, drow⟩ := hty dst dd hd'
    have dfit := drow.fits
    split at h
    · rename_i k k' n hk
      rw [hk] at dfit
      have dfit : ud = .int k := dfit
      subst dfit
      refine ⟨_, h, fun w0 F Hp hs w u hi hu => ?_⟩
      cases hu.inv_val
      refine ⟨_, ?_, .val _⟩
      simp only [convert, Sem.run_bind, srow.run_und, drow.run_und, Result.andThen_ok]
      cases us <;> rfl
    · rename_i k n hk
      rw [hk] at dfit
      have dfit : ud = .string := dfit
      subst dfit
      refine ⟨_, h, fun w0 F Hp hs w u hi hu => ?_⟩
      cases hu.inv_val
      refine ⟨_, ?_, .val _⟩
      simp only [convert, Sem.run_bind, srow.run_und, drow.run_und, Result.andThen_ok]
      cases us <;> rfl
    · rename_i s hk
      rw [hk] at dfit
      have dfit : ud = .string := dfit
      subst dfit
      refine ⟨_, h, fun w0 F Hp hs w u hi hu => ?_⟩
      cases hu.inv_val
      refine ⟨_, ?_, .val _⟩
      simp only [convert, Sem.run_bind, srow.run_und, drow.run_und, Result.andThen_ok]
      cases us <;> rfl
    · have hk : dd.k = .str := by assumption
      rw [hk] at dfit
      have dfit : ud = .string := dfit
      subst dfit
      split at h
      · rename_i e hse
        have sfit := srow.fits
        rw [hse] at sfit
        have sfit : us = .slice e := sfit
        subst sfit
        split at h
        · rename_i de hde
          obtain ⟨ue, ie, erow⟩ := hty e de hde
          have efit := erow.fits
          split at h
          · rename_i hke
            rw [hke] at efit
            have efit : ue = .int .u8 := efit
            subst efit
            split at h
            · rename_i xs hx
              obtain ⟨hrc, h⟩ := rdG_ok h
              refine ⟨_, h, fun w0 F Hp hs w u hi hu => ?_⟩
              obtain ⟨A, c, rfl, hrd⟩ := rdL_ok hi hx hrc hu
              refine ⟨_, ?_, .val _⟩
              simp only [convert, Sem.run_bind, srow.run_und, drow.run_und, erow.run_und, Result.andThen_ok]
              cases A with
              | none =>
                have hxs : xs = [] := by
                  cases xs with
                  | nil => rfl
                  | cons x xs => obtain ⟨cs, h1, h2⟩ := hrd 0 x rfl; obtain ⟨u, v', rfl, _, _⟩ := Reps.inv_cons h1; obtain ⟨a, ha, _⟩ := h2 0 _ rfl; cases ha
                subst hxs; rfl
              | some a =>
                simp only [Conv.bytesToString, Sem.run_bind, run_loadInts hrd, Result.andThen_ok]
                rw [run_forInts w .u8 _ (fun s n => s.push (UInt8.ofNat n.toNat)) (fun n r => rfl), Result.andThen_ok, Sem.run_pure, strBytes_eq]
                congr 2
                show (⟨#[] ++ _⟩ : ByteArray) = _
                simp [strBytes]
            · exact h.elim
          · rename_i hke
            rw [hke] at efit
            have efit : ue = .int .i32 := efit
            subst efit
            split at h
            · rename_i xs hx
              obtain ⟨hrc, h⟩ := rdG_ok h
              refine ⟨_, h, fun w0 F Hp hs w u hi hu => ?_⟩
              obtain ⟨A, c, rfl, hrd⟩ := rdL_ok hi hx hrc hu
              refine ⟨_, ?_, .val _⟩
              simp only [convert, Sem.run_bind, srow.run_und, drow.run_und, erow.run_und, Result.andThen_ok]
              cases A with
              | none =>
                have hxs : xs = [] := by
                  cases xs with
                  | nil => rfl
                  | cons x xs => obtain ⟨cs, h1, h2⟩ := hrd 0 x rfl; obtain ⟨u, v', rfl, _, _⟩ := Reps.inv_cons h1; obtain ⟨a, ha, _⟩ := h2 0 _ rfl; cases ha
                subst hxs; rfl
              | some a =>
                simp only [Conv.runesToString, Sem.run_bind, run_loadInts hrd, Result.andThen_ok]
                rw [run_forInts w .i32 _ (fun s n => s ++ Utf8.encode n) (fun n r => rfl), Result.andThen_ok, Sem.run_pure]
                rfl
            · exact h.elim
          · exact h.elim
        · exact h.elim
      · exact h.elim
    · exact h.elim
  · exact h.elim
end Go.Sx
end
section
namespace Go.Sx
open Go
variable {P : Program} {ty : Ty}

theorem beq_nat {a b : Nat} (h : Nat.beq a b = true) : a = b := Nat.eq_of_beq_eq_true h

theorem evIndexAddr_ok (hty : TyOk P ty) {M : List Blk} {t : TypeId} {x i : AV} {K : AV → Prop} (h : evIndexAddr ty M t x i K) :
    ∃ av, K av ∧ ∀ (w0 : Base P) F Hp hs w u j, InvS w0 F Hp hs M w → Rep F Hp hs x u → Rep F Hp hs i j → ∃ v, (Instr.indexAt t u j).run P w = .ok v w ∧ Rep F Hp hs av v := by
  unfold evIndexAddr at h
  split at h
  · rename_i d hd
    split at h
    · rename_i e hk
      split at h
      · rename_i de k n hde
        obtain ⟨ud, ti, row⟩ := hty t d hd
        obtain ⟨ue, ie, erow⟩ := hty e de hde
        have hfit := row.fits
        rw [hk] at hfit
        have hfit : ud = .slice e := hfit
        subst hfit
        have hrun : ∀ w (a : Addr) (len cap : Nat), 0 ≤ n → n < len → (Instr.indexAt t (.slice (some a) len cap) (.int k n)).run P w = .ok (.pointer (some (a.add (n.toNat * de.size)))) w := by
          intro w a len cap h0 h1
          simp [Instr.indexAt, asIntOf, row.run_und, erow.run_size, h0, h1]
        split at h
        · rename_i k' xs
          split at h
          · rename_i hsz
            have hsz := beq_nat hsz
            obtain ⟨hb, hK⟩ := h
            have hlt : n.toNat < xs.length := by omega
            refine ⟨_, evEl_ok hK, fun w0 F Hp hs w u j hi hu hj => ?_⟩
            cases hj.inv_val
            cases hu with
            | sl _ _ A cap css h1 h2 h3 h4 h5 =>
              have hx := gt_lt hlt
              have hrep := h4 _ _ hx
              cases A with
              | none => have := h3 rfl; omega
              | some a =>
                refine ⟨_, hrun w a _ cap hb.1 hb.2, ?_⟩
                have hcell : ∀ j c, (css n.toNat)[j]? = some c → rdAt F Hp ((a.add (n.toNat * de.size)).add j) c := by
                  intro j c hc
                  obtain ⟨a', e1, e2⟩ := h5 _ _ j c hx hc
                  cases e1
                  rw [Addr.add_add, hsz]; exact .inl e2
                have := Rep.rp (F := F) (Hp := Hp) (hs := hs) (enc k' (gt k' xs n.toNat)) 0 _ _ hrep hcell
                rwa [Addr.add_zero'] at this
          · exact h.elim
        · rename_i k' xs
          split at h
          · rename_i hsz
            have hsz := beq_nat hsz
            obtain ⟨hb, hK⟩ := h
            have hlt : n.toNat < xs.length := by omega
            refine ⟨_, evEl_ok hK, fun w0 F Hp hs w u j hi hu hj => ?_⟩
            cases hj.inv_val
            cases hu with
            | lt _ _ A cap css h1 h2 h3 h4 h5 =>
              have hx := gt_lt hlt
              have hrep := h4 _ _ hx
              cases A with
              | none => have := h3 rfl; omega
              | some a =>
                refine ⟨_, hrun w a _ cap hb.1 hb.2, ?_⟩
                have hcell : ∀ j c, (css n.toNat)[j]? = some c → rdAt F Hp ((a.add (n.toNat * de.size)).add j) c := by
                  intro j c hc
                  obtain ⟨a', e1, e2⟩ := h5 _ _ j c hx hc
                  cases e1
                  rw [Addr.add_add, hsz]; exact e2
                have := Rep.rp (F := F) (Hp := Hp) (hs := hs) (enc k' (gt k' xs n.toNat)) 0 _ _ hrep hcell
                rwa [Addr.add_zero'] at this
          · exact h.elim
        · rename_i m
          split at h
          · rename_i k' xs hm
            split at h
            · rename_i hsz
              have hsz := beq_nat hsz
              obtain ⟨hb, hK⟩ := h
              refine ⟨_, hK, fun w0 F Hp hs w u j hi hu hj => ?_⟩
              cases hj.inv_val
              cases hu with
              | own _ _ hn =>
                obtain ⟨A, cap, rfl, h1, h2, h3, h4⟩ := hi.blk m _ _ hm hn
                cases A with
                | none => have := h3 rfl; omega
                | some a =>
                  obtain ⟨b, T, c, rfl, g1, g2, g3⟩ := h4 a rfl
                  refine ⟨_, hrun w _ _ cap hb.1 hb.2, ?_⟩
                  rw [Addr.add_lit, hsz, Nat.zero_add]
                  exact Rep.ep m (ksz k') n.toNat 0 b _ _ hn
            · exact h.elim
          · exact h.elim
        · rename_i m sz j0 len cap0
          split at h
          · rename_i hsz
            have hsz := beq_nat hsz
            obtain ⟨hb, hK⟩ := h
            refine ⟨_, hK, fun w0 F Hp hs w u j hi hu hj => ?_⟩
            cases hj.inv_val
            cases hu with
            | es _ _ _ _ _ b l c A c' hn hlc hc hA hA0 =>
              have hA := hA (by omega)
              subst hA
              refine ⟨_, hrun w _ _ c' hb.1 hb.2, ?_⟩
              rw [Addr.add_lit, hsz, ← Nat.add_mul]
              exact Rep.ep m sz (j0 + n.toNat) 0 b _ _ hn
          · exact h.elim
        · exact h.elim
      · exact h.elim
    · exact h.elim
  · exact h.elim

theorem evLoad_ok (hty : TyOk P ty) {M : List Blk} {t : TypeId} {x : AV} {K : AV → Prop} (h : evLoad ty M t x K) :
    ∃ av, K av ∧ ∀ (w0 : Base P) F Hp hs w u, InvS w0 F Hp hs M w → Rep F Hp hs x u → ∃ v, (Instr.loadAt t u).run P w = .ok v w ∧ Rep F Hp hs av v := by
  unfold evLoad at h
  split at h
  · rename_i d hd
    obtain ⟨ud, ti, row⟩ := hty t d hd
    split at h
    · rename_i n off
      split at h
      · rename_i cs hm
        obtain ⟨av, hK, hav⟩ := cut_ok h
        refine ⟨av, hK, fun w0 F Hp hs w u hi hu => ?_⟩
        cases hu with
        | ptr _ _ b hn =>
          obtain ⟨b', T, vs, e, g1, g2⟩ := hi.blk n _ _ hm hn
          cases e
          obtain ⟨v, hv, h1, h2⟩ := hav F Hp hs vs g2
          refine ⟨v, ?_, hv⟩
          have := run_loadVar_at row (w := w) (a := ⟨b, 0, none⟩) (v := v) (vs := vs) (off := off) (fun j c hc => by
            rw [Addr.add_lit]; simp only [World.cell?, g1]; simpa using hc) h1 h2
          rw [Addr.add_lit, Nat.zero_add] at this
          simpa [Instr.loadAt, Instr.sureAddr] using this
      · exact h.elim
    · rename_i n sz i off
      split at h
      · rename_i k xs hm
        split at h
        · rename_i hsz
          have hsz := beq_nat hsz
          obtain ⟨hlt, h⟩ := h
          obtain ⟨av, hK, hav⟩ := cut_ok (evEl_ok h)
          refine ⟨av, hK, fun w0 F Hp hs w u hi hu => ?_⟩
          cases hu with
          | ep _ _ _ _ b l c hn =>
            obtain ⟨A, cap, e, e1, e2, e3, e4⟩ := hi.blk n _ _ hm hn
            cases e
            obtain ⟨b', T, c', e5, g1, g2, g3⟩ := e4 _ rfl
            cases e5
            obtain ⟨v, hv, h1, h2⟩ := hav F Hp hs _ (g3 i _ (gt_lt hlt))
            refine ⟨v, ?_, hv⟩
            have := run_loadVar_at row (w := w) (a := ⟨b, i * sz, none⟩) (v := v) (vs := elCells c' (ksz k) i) (off := off) (fun j c hc => by
              rw [Addr.add_lit]; simp only [World.cell?, g1]
              have hj := elCells_len hc
              rw [elCells_get hj] at hc
              rw [hsz]; simpa using hc) h1 h2
            rw [Addr.add_lit] at this
            simpa [Instr.loadAt, Instr.sureAddr] using this
        · exact h.elim
      · exact h.elim
    · rename_i cs off
      obtain ⟨av, hK, hav⟩ := cut_ok h
      refine ⟨av, hK, fun w0 F Hp hs w u hi hu => ?_⟩
      cases hu with
      | rp _ _ a vs hr hc =>
        obtain ⟨v, hv, h1, h2⟩ := hav F Hp hs vs hr
        refine ⟨v, ?_, hv⟩
        have := run_loadVar_at row (w := w) (a := a) (v := v) (vs := vs) (off := off) (fun j c hj => rdAt_w hi (hc j c hj)) h1 h2
        simpa [Instr.loadAt, Instr.sureAddr] using this
    · exact h.elim
  · exact h.elim

theorem evMx_ok {op : Bool} {xs : List AV} {K : AV → Prop} (h : evMx op xs K) :
    ∃ av, K av ∧ ∀ (P : Program) F Hp hs w us ts T, Reps F Hp hs xs us → ∃ v, ((if op then Builtin.max_ ts T us.toArray else Builtin.min_ ts T us.toArray)).run P w = .ok v w ∧ Rep F Hp hs av v := by
  unfold evMx at h
  split at h
  · rename_i k a k' b
    refine ⟨_, h, fun P F Hp hs w us ts T hu => ⟨_, ?_, .val _⟩⟩
    obtain ⟨u1, r1, rfl, q1, t1⟩ := Reps.inv_cons hu
    obtain ⟨u2, r2, rfl, q2, t2⟩ := Reps.inv_cons t1
    cases t2.inv_nil; cases q1.inv_val; cases q2.inv_val
    simp only [if_true, Builtin.max_, List.foldlM_cons, List.foldlM_nil, Builtin.max2, bind_pure, Sem.run_bind, Sem.run_pure, Result.andThen_ok]
    congr 2; omega
  · rename_i k a k' b
    refine ⟨_, h, fun P F Hp hs w us ts T hu => ⟨_, ?_, .val _⟩⟩
    obtain ⟨u1, r1, rfl, q1, t1⟩ := Reps.inv_cons hu
    obtain ⟨u2, r2, rfl, q2, t2⟩ := Reps.inv_cons t1
    cases t2.inv_nil; cases q1.inv_val; cases q2.inv_val
    simp only [Bool.false_eq_true, if_false, Builtin.min_, List.foldlM_cons, List.foldlM_nil, Builtin.min2, bind_pure, Sem.run_bind, Sem.run_pure, Result.andThen_ok]
    congr 2; omega
  · rename_i k a k' b k'' c
    refine ⟨_, h, fun P F Hp hs w us ts T hu => ⟨_, ?_, .val _⟩⟩
    obtain ⟨u1, r1, rfl, q1, t1⟩ := Reps.inv_cons hu
    obtain ⟨u2, r2, rfl, q2, t2⟩ := Reps.inv_cons t1
    obtain ⟨u3, r3, rfl, q3, t3⟩ := Reps.inv_cons t2
    cases t3.inv_nil; cases q1.inv_val; cases q2.inv_val; cases q3.inv_val
    simp only [if_true, Builtin.max_, List.foldlM_cons, List.foldlM_nil, Builtin.max2, bind_pure, Sem.run_bind, Sem.run_pure, Result.andThen_ok]
    congr 2; omega
  · rename_i k a k' b k'' c
    refine ⟨_, h, fun P F Hp hs w us ts T hu => ⟨_, ?_, .val _⟩⟩
    obtain ⟨u1, r1, rfl, q1, t1⟩ := Reps.inv_cons hu
    obtain ⟨u2, r2, rfl, q2, t2⟩ := Reps.inv_cons t1
    obtain ⟨u3, r3, rfl, q3, t3⟩ := Reps.inv_cons t2
    cases t3.inv_nil; cases q1.inv_val; cases q2.inv_val; cases q3.inv_val
    simp only [Bool.false_eq_true, if_false, Builtin.min_, List.foldlM_cons, List.foldlM_nil, Builtin.min2, bind_pure, Sem.run_bind, Sem.run_pure, Result.andThen_ok]
    congr 2; omega
  · exact h.elim

theorem evLen_ok (hty : TyOk P ty) {M : List Blk} {t : TypeId} {x : AV} {K : AV → Prop} (h : evLen ty M t x K) :
    ∃ av, K av ∧ ∀ (w0 : Base P) F Hp hs w u T, InvS w0 F Hp hs M w → Rep F Hp hs x u → ∃ v, (Builtin.len_ #[t] T #[u]).run P w = .ok v w ∧ Rep F Hp hs av v := by
  unfold evLen at h
  split at h
  · rename_i d hd
    obtain ⟨ud, ti, row⟩ := hty t d hd
    have hfit := row.fits
    split at h
    · rename_i s hk
      rw [hk] at hfit
      have hfit : ud = .string := hfit
      subst hfit
      refine ⟨_, h, fun w0 F Hp hs w u T hi hu => ⟨_, ?_, .val _⟩⟩
      cases hu.inv_val
      simp [Builtin.len_, row.run_und, goInt]
    · rename_i e hk
      rw [hk] at hfit
      have hfit : ud = .slice e := hfit
      subst hfit
      split at h
      · rename_i n hn
        refine ⟨_, h, fun w0 F Hp hs w u T hi hu => ?_⟩
        obtain ⟨A, c, rfl⟩ := slLen_ok hi hn hu
        exact ⟨_, by simp [Builtin.len_, row.run_und, goInt], .val _⟩
      · exact h.elim
    · exact h.elim
  · exact h.elim
end Go.Sx
end
section
namespace Go.Sx
open Go
variable {P : Program} {ty : Ty}

def OptIs (vo : Option Value) : Option Int → Prop
  | none => vo = none
  | some n => ∃ k, vo = some (.int k n)
theorem optI_ok {F Hp : PH} {hs : List Value} {ρ : Operand → AV} {ev : Operand → Value} (hr : ∀ x, Rep F Hp hs (ρ x) (ev x)) {o : Option Operand} {r : Option Int} (h : optI (o.map ρ) = some r) : OptIs (o.map ev) r := by
  cases o with
  | none => simp [optI] at h; subst h; rfl
  | some x =>
    have hx := hr x
    simp only [Option.map_some] at h ⊢
    generalize ρ x = y at h hx
    unfold optI at h
    split at h
    · rename_i e; cases e
    · rename_i k n e
      cases h
      cases e
      exact ⟨k, by rw [hx.inv_val]⟩
    · cases h

theorem run_bound {w : World} {k : IntKind} {i : Int} {y : Nat} {c : BoundsCode} (h0 : 0 ≤ i) (h1 : i ≤ y) : (Instr.sliceBound (.int k i) y c).run P w = .ok i.toNat w := by
  simp [Instr.sliceBound, asIntOf, h0, h1]

/-- the bounds of a slice expression without a third index -/
theorem run_bounds2 {w : World} {b : Bool} {len cap : Nat} {lo hi : Option Int} {vlo vhi : Option Value}
    (hlo : OptIs vlo lo) (hhi : OptIs vhi hi)
    (h0 : 0 ≤ lo.getD 0) (h1 : lo.getD 0 ≤ hi.getD len) (h2 : hi.getD len ≤ len) (hc : len ≤ cap) :
    (Instr.sliceBounds b len cap vlo vhi none).run P w = .ok ((lo.getD 0).toNat, (hi.getD len).toNat, cap) w := by
  cases lo with
  | none =>
    cases hlo
    cases hi with
    | none => cases hhi; simp [Instr.sliceBounds]
    | some n =>
      obtain ⟨k, rfl⟩ := hhi
      simp at h1 h2
      simp [Instr.sliceBounds, run_bound (P := P) (w := w) (k := k) (i := n) (y := cap) h1 (by omega)]
  | some l =>
    obtain ⟨kl, rfl⟩ := hlo
    simp at h0 h1
    cases hi with
    | none =>
      cases hhi
      simp at h1
      simp [Instr.sliceBounds, run_bound (P := P) (w := w) (k := kl) (i := l) (y := len) h0 h1]
    | some n =>
      obtain ⟨k, rfl⟩ := hhi
      simp at h1 h2
      simp [Instr.sliceBounds, run_bound (P := P) (w := w) (k := k) (i := n) (y := cap) (by omega) (by omega), run_bound (P := P) (w := w) (k := kl) (i := l) (y := n.toNat) h0 (by omega)]
theorem run_bounds3 {w : World} {len cap : Nat} {lo hi : Option Int} {c : Int} {kc : IntKind} {vlo vhi : Option Value}
    (hlo : OptIs vlo lo) (hhi : OptIs vhi hi)
    (hh : hi.isSome = true) (h0 : 0 ≤ lo.getD 0) (h1 : lo.getD 0 ≤ hi.getD len) (h2 : hi.getD len ≤ c) (hc : c ≤ cap) :
    (Instr.sliceBounds true len cap vlo vhi (some (.int kc c))).run P w = .ok ((lo.getD 0).toNat, (hi.getD len).toNat, c.toNat) w := by
  cases hi with
  | none => cases hh
  | some n =>
    obtain ⟨k, rfl⟩ := hhi
    simp at h1 h2
    cases lo with
    | none =>
      cases hlo
      simp at h1
      simp [Instr.sliceBounds, run_bound (P := P) (w := w) (k := kc) (i := c) (y := cap) (by omega) (by omega), run_bound (P := P) (w := w) (k := k) (i := n) (y := c.toNat) (by omega) (by omega)]
    | some l =>
      obtain ⟨kl, rfl⟩ := hlo
      simp at h0 h1
      simp [Instr.sliceBounds, run_bound (P := P) (w := w) (k := kc) (i := c) (y := cap) (by omega) (by omega), run_bound (P := P) (w := w) (k := k) (i := n) (y := c.toNat) (by omega) (by omega), run_bound (P := P) (w := w) (k := kl) (i := l) (y := n.toNat) h0 (by omega)]

theorem take_drop_get {α : Type} {xs : List α} {l n i : Nat} {x : α} (h : ((xs.drop l).take n)[i]? = some x) : i < n ∧ xs[l + i]? = some x := by
  rw [List.getElem?_take] at h
  split at h
  · rename_i hi; rw [List.getElem?_drop] at h; exact ⟨hi, h⟩
  · cases h

theorem evSlice_ok (hty : TyOk P ty) {M : List Blk} {t : TypeId} {x : AV} {ρ : Operand → AV} {lo hi mx : Option Operand} {K : AV → Prop} (h : evSlice ty M t x (lo.map ρ) (hi.map ρ) (mx.map ρ) K) :
    ∃ av, K av ∧ ∀ (w0 : Base P) F Hp hs w u (ev : Operand → Value), InvS w0 F Hp hs M w → (∀ x, Rep F Hp hs (ρ x) (ev x)) → Rep F Hp hs x u →
      ∃ v, (Instr.sliceAt t u (lo.map ev) (hi.map ev) (mx.map ev)).run P w = .ok v w ∧ Rep F Hp hs av v := by
  unfold evSlice at h
  split at h
  · rename_i d lo' hi' mx' hd elo ehi emx
    obtain ⟨ud, ti, row⟩ := hty t d hd
    have hfit := row.fits
    split at h
    · rename_i s hk
      rw [hk] at hfit
      have hfit : ud = .string := hfit
      subst hfit
      split at h
      · obtain ⟨⟨h0, h1, h2⟩, hK⟩ := h
        refine ⟨_, hK, fun w0 F Hp hs w u ev hinv hr hu => ⟨_, ?_, .val _⟩⟩
        cases hu.inv_val
        have emx := optI_ok hr emx
        have emx : mx.map ev = none := emx
        simp only [Instr.sliceAt, Sem.run_bind, row.run_und, Result.andThen_ok, Instr.slice, emx, Option.isSome_none, Bool.false_eq_true, if_false, Sem.run_pure]
        rw [run_bounds2 (optI_ok hr elo) (optI_ok hr ehi) h0 h1 h2 (Nat.le_refl _)]
        simp
      · exact h.elim
    · rename_i e k xs hk
      rw [hk] at hfit
      have hfit : ud = .slice e := hfit
      subst hfit
      split at h
      · rename_i de hde
        obtain ⟨ue, ie, erow⟩ := hty e de hde
        split at h
        · rename_i hsz
          have hsz := beq_nat hsz
          obtain ⟨⟨h0, h1, h2⟩, hK⟩ := h
          refine ⟨_, hK, fun w0 F Hp hs w u ev hinv hr hu => ?_⟩
          have emx := optI_ok hr emx
          have emx : mx.map ev = none := emx
          cases hu with
          | sl _ _ A cap css g1 g2 g3 g4 g5 =>
            have hle : (hi'.getD xs.length).toNat ≤ xs.length := by omega
            have hlen : ((xs.drop (lo'.getD 0).toNat).take ((hi'.getD xs.length).toNat - (lo'.getD 0).toNat)).length = (hi'.getD xs.length).toNat - (lo'.getD 0).toNat := by
              rw [List.length_take, List.length_drop]; omega
            refine ⟨.slice (if cap = (lo'.getD 0).toNat then A else A.map (·.add ((lo'.getD 0).toNat * de.size))) ((hi'.getD xs.length).toNat - (lo'.getD 0).toNat) (cap - (lo'.getD 0).toNat), ?_, ?_⟩
            · simp only [Instr.sliceAt, Sem.run_bind, row.run_und, Result.andThen_ok, Instr.slice, emx]
              rw [run_bounds2 (optI_ok hr elo) (optI_ok hr ehi) h0 h1 h2 g1]
              simp [erow.run_size]
            · suffices key : Rep F Hp hs (.sl k ((xs.drop (lo'.getD 0).toNat).take ((hi'.getD xs.length).toNat - (lo'.getD 0).toNat))) (.slice (if cap = (lo'.getD 0).toNat then A else A.map (·.add ((lo'.getD 0).toNat * de.size))) ((xs.drop (lo'.getD 0).toNat).take ((hi'.getD xs.length).toNat - (lo'.getD 0).toNat)).length (cap - (lo'.getD 0).toNat)) by rwa [hlen] at key
              refine Rep.sl k _ (if cap = (lo'.getD 0).toNat then A else A.map (·.add ((lo'.getD 0).toNat * de.size))) (cap - (lo'.getD 0).toNat) (fun i => css ((lo'.getD 0).toNat + i)) (by rw [hlen]; omega) (by omega) ?_ ?_ ?_
              · intro hA
                cases A with
                | none => have := g3 rfl; omega
                | some a => split at hA <;> simp at hA
              · intro i y hy
                obtain ⟨hy1, hy2⟩ := take_drop_get hy
                exact g4 _ _ hy2
              · intro i y j c hy hc
                obtain ⟨hy1, hy2⟩ := take_drop_get hy
                obtain ⟨a, rfl, hcell⟩ := g5 _ _ j c hy2 hc
                have hne : ¬ cap = (lo'.getD 0).toNat := by
                  have := (List.getElem?_eq_some_iff.1 hy2).1; omega
                rw [if_neg hne]
                refine ⟨_, rfl, ?_⟩
                rw [Addr.add_add, hsz, ← Nat.add_assoc, ← Nat.add_mul]
                exact hcell
        · exact h.elim
      · exact h.elim
    · rename_i e k xs hk
      rw [hk] at hfit
      have hfit : ud = .slice e := hfit
      subst hfit
      split at h
      · rename_i de hde
        obtain ⟨ue, ie, erow⟩ := hty e de hde
        split at h
        · rename_i hsz
          have hsz := beq_nat hsz
          obtain ⟨⟨h0, h1, h2⟩, hK⟩ := h
          refine ⟨_, hK, fun w0 F Hp hs w u ev hinv hr hu => ?_⟩
          have emx := optI_ok hr emx
          have emx : mx.map ev = none := emx
          cases hu with
          | lt _ _ A cap css g1 g2 g3 g4 g5 =>
            have hle : (hi'.getD xs.length).toNat ≤ xs.length := by omega
            have hlen : ((xs.drop (lo'.getD 0).toNat).take ((hi'.getD xs.length).toNat - (lo'.getD 0).toNat)).length = (hi'.getD xs.length).toNat - (lo'.getD 0).toNat := by
              rw [List.length_take, List.length_drop]; omega
            refine ⟨.slice (if cap = (lo'.getD 0).toNat then A else A.map (·.add ((lo'.getD 0).toNat * de.size))) ((hi'.getD xs.length).toNat - (lo'.getD 0).toNat) (cap - (lo'.getD 0).toNat), ?_, ?_⟩
            · simp only [Instr.sliceAt, Sem.run_bind, row.run_und, Result.andThen_ok, Instr.slice, emx]
              rw [run_bounds2 (optI_ok hr elo) (optI_ok hr ehi) h0 h1 h2 g1]
              simp [erow.run_size]
            · suffices key : Rep F Hp hs (.lt k ((xs.drop (lo'.getD 0).toNat).take ((hi'.getD xs.length).toNat - (lo'.getD 0).toNat))) (.slice (if cap = (lo'.getD 0).toNat then A else A.map (·.add ((lo'.getD 0).toNat * de.size))) ((xs.drop (lo'.getD 0).toNat).take ((hi'.getD xs.length).toNat - (lo'.getD 0).toNat)).length (cap - (lo'.getD 0).toNat)) by rwa [hlen] at key
              refine Rep.lt k _ (if cap = (lo'.getD 0).toNat then A else A.map (·.add ((lo'.getD 0).toNat * de.size))) (cap - (lo'.getD 0).toNat) (fun i => css ((lo'.getD 0).toNat + i)) (by rw [hlen]; omega) trivial ?_ ?_ ?_
              · intro hA
                cases A with
                | none => have := g3 rfl; omega
                | some a => split at hA <;> simp at hA
              · intro i y hy
                obtain ⟨hy1, hy2⟩ := take_drop_get hy
                exact g4 _ _ hy2
              · intro i y j c hy hc
                obtain ⟨hy1, hy2⟩ := take_drop_get hy
                obtain ⟨a, rfl, hcell⟩ := g5 _ _ j c hy2 hc
                have hne : ¬ cap = (lo'.getD 0).toNat := by
                  have := (List.getElem?_eq_some_iff.1 hy2).1; omega
                rw [if_neg hne]
                refine ⟨_, rfl, ?_⟩
                rw [Addr.add_add, hsz, ← Nat.add_assoc, ← Nat.add_mul]
                exact hcell
        · exact h.elim
      · exact h.elim
    · rename_i e m hk
      rw [hk] at hfit
      have hfit : ud = .slice e := hfit
      subst hfit
      split at h
      · rename_i k xs de hm hde
        obtain ⟨ue, ie, erow⟩ := hty e de hde
        split at h
        · rename_i hsz
          have hsz := beq_nat hsz
          split at h
          · obtain ⟨⟨hpos, h0, h1, h2⟩, hK⟩ := h
            refine ⟨_, hK, fun w0 F Hp hs w u ev hinv hr hu => ?_⟩
            have emx := optI_ok hr emx
            have emx : mx.map ev = none := emx
            cases hu with
            | own _ _ hn =>
              obtain ⟨A, cap, rfl, q1, q2, q3, q4⟩ := hinv.blk m _ _ hm hn
              cases A with
              | none => have := q3 rfl; omega
              | some a =>
                obtain ⟨b, T, c, rfl, r1, r2, r3⟩ := q4 a rfl
                refine ⟨.slice (if cap = (lo'.getD 0).toNat then some ⟨b, 0, none⟩ else some (Addr.add ⟨b, 0, none⟩ ((lo'.getD 0).toNat * de.size))) ((hi'.getD xs.length).toNat - (lo'.getD 0).toNat) (cap - (lo'.getD 0).toNat), ?_, ?_⟩
                · simp only [Instr.sliceAt, Sem.run_bind, row.run_und, Result.andThen_ok, Instr.slice, emx]
                  rw [run_bounds2 (optI_ok hr elo) (optI_ok hr ehi) h0 h1 h2 q1]
                  simp [erow.run_size]
                · refine Rep.es m _ _ _ _ b _ _ _ _ hn (by omega) (fun x hx => by cases hx) ?_ ?_
                  · intro hp
                    rw [if_neg (by omega), Addr.add_lit, hsz, Nat.zero_add]
                  · split <;> simp
          · rename_i c
            obtain ⟨⟨hsome, hpos, h0, h1, h2, h3⟩, hK⟩ := h
            refine ⟨_, hK, fun w0 F Hp hs w u ev hinv hr hu => ?_⟩
            have emx := optI_ok hr emx
            obtain ⟨kc, emx⟩ := emx
            cases hu with
            | own _ _ hn =>
              obtain ⟨A, cap, rfl, q1, q2, q3, q4⟩ := hinv.blk m _ _ hm hn
              cases A with
              | none => have := q3 rfl; omega
              | some a =>
                obtain ⟨b, T, cc, rfl, r1, r2, r3⟩ := q4 a rfl
                cases hi' with
                | none =>
                  cases hsome
                | some n =>
                  simp only [Option.getD_some] at h1 h2
                  refine ⟨.slice (if c.toNat = (lo'.getD 0).toNat then some ⟨b, 0, none⟩ else some (Addr.add ⟨b, 0, none⟩ ((lo'.getD 0).toNat * de.size))) (n.toNat - (lo'.getD 0).toNat) (c.toNat - (lo'.getD 0).toNat), ?_, ?_⟩
                  · simp only [Instr.sliceAt, Sem.run_bind, row.run_und, Result.andThen_ok, Instr.slice, emx]
                    rw [run_bounds3 (len := xs.length) (hi := some n) (optI_ok hr elo) (optI_ok hr ehi) rfl h0 h1 h2 (by omega)]
                    simp [erow.run_size]
                  · refine Rep.es m _ _ _ _ b _ _ _ _ hn (by simp; omega) (fun x hx => by cases hx; rfl) ?_ ?_
                    · intro hp
                      rw [if_neg (by omega), Addr.add_lit, hsz, Nat.zero_add]
                    · split <;> simp
        · exact h.elim
      · exact h.elim
    · rename_i e m sz i len cap hk
      rw [hk] at hfit
      have hfit : ud = .slice e := hfit
      subst hfit
      split at h
      · rename_i de hde
        obtain ⟨ue, ie, erow⟩ := hty e de hde
        split at h
        · rename_i hsz
          have hsz := beq_nat hsz
          obtain ⟨⟨h0, h1, h2⟩, hK⟩ := h
          refine ⟨_, hK, fun w0 F Hp hs w u ev hinv hr hu => ?_⟩
          have emx := optI_ok hr emx
          have emx : mx.map ev = none := emx
          cases hu with
          | es _ _ _ _ _ b l c A c' hn hlc hc hA hA0 =>
            refine ⟨.slice (if c' = (lo'.getD 0).toNat then A else A.map (·.add ((lo'.getD 0).toNat * de.size))) ((hi'.getD len).toNat - (lo'.getD 0).toNat) (c' - (lo'.getD 0).toNat), ?_, ?_⟩
            · simp only [Instr.sliceAt, Sem.run_bind, row.run_und, Result.andThen_ok, Instr.slice, emx]
              rw [run_bounds2 (optI_ok hr elo) (optI_ok hr ehi) h0 h1 h2 hlc]
              simp [erow.run_size]
            · refine Rep.es m _ _ _ _ b _ _ _ _ hn (by omega) ?_ ?_ ?_
              · intro x hx
                cases cap with
                | none => cases hx
                | some q => simp at hx; have := hc q rfl; omega
              · intro hp
                rw [if_neg (by omega), hA (by omega), Option.map_some, Addr.add_lit, hsz, ← Nat.add_mul]
              · split
                · exact hA0
                · cases A with
                  | none => exact absurd rfl hA0
                  | some a => simp
        · exact h.elim
      · exact h.elim
    · exact h.elim
  · exact h.elim
end Go.Sx
end
section
namespace Go.Sx
open Go
variable {P : Program} {ty : Ty}

theorem cells_ok {w0 : Base P} {w : World} {F Hp : PH} {hs : List Value} {M : List Blk} (hi : InvS w0 F Hp hs M w) {x : AV} {v : Value} (h : Rep F Hp hs x v) (hne : x.cells ≠ []) : Reps F Hp hs x.cells v.cells.toList := by
  cases h with
  | top => exact absurd rfl hne
  | val v => cases v <;> first | exact absurd rfl hne | exact .cons (.val _) .nil
  | agg cs vs h => exact h
  | own n v hn =>
    have := hi.one v (List.mem_of_getElem? hn)
    cases v <;> first | (simp [Value.oneCell'] at this; done) | exact .cons (.own n _ hn) .nil
  | tt => exact .cons .tt .nil
  | ff => exact .cons .ff .nil
  | sl k xs A cap css h1 h2 h3 h4 h5 => exact .cons (.sl k xs A cap css h1 h2 h3 h4 h5) .nil
  | lt k xs A cap css h1 h2 h3 h4 h5 => exact .cons (.lt k xs A cap css h1 h2 h3 h4 h5) .nil
  | rp cs off a vs hr hc => exact .cons (.rp cs off a vs hr hc) .nil
  | ptr n off b hn => exact .cons (.ptr n off b hn) .nil
  | ep n sz i off b l c hn => exact .cons (.ep n sz i off b l c hn) .nil
  | es n sz i len cap b l c A c' h1 h2 h3 h4 h5 => exact .cons (.es n sz i len cap b l c A c' h1 h2 h3 h4 h5) .nil
  | tup cs vs h => exact .cons (.tup cs vs h) .nil
  | ifc T a v h => exact .cons (.ifc T a v h) .nil

theorem putL_ok {F Hp : PH} {hs : List Value} : ∀ (xs : List AV) (us : List Value) (off : Nat) (l : List AV) (vs : List Value), Reps F Hp hs xs us → Reps F Hp hs l vs →
    Reps F Hp hs (putL off xs l) (((us.zipIdx off).foldl (fun (cs : Array Value) p => cs.setIfInBounds p.2 p.1) vs.toArray).toList) := by
  intro xs
  induction xs with
  | nil => intro us off l vs hx hl; cases hx.inv_nil; simpa [putL] using hl
  | cons x xs ih =>
    intro us off l vs hx hl
    obtain ⟨u, us', rfl, h1, h2⟩ := Reps.inv_cons hx
    simp only [putL, List.zipIdx_cons, List.foldl_cons, List.setIfInBounds_toArray]
    exact ih us' (off + 1) _ _ h2 (Reps.set h1 off hl)
theorem zipIdx_shift (us : List Value) (off : Nat) : ∀ (k : Nat) (A : Array Value), (us.zipIdx k).foldl (fun (cs : Array Value) p => cs.setIfInBounds (off + p.2) p.1) A = (us.zipIdx (off + k)).foldl (fun (cs : Array Value) p => cs.setIfInBounds p.2 p.1) A := by
  induction us with
  | nil => intro k A; simp
  | cons u us ih =>
    intro k A
    simp only [List.zipIdx_cons, List.foldl_cons]
    rw [ih]; rfl

theorem fillL_ok {w0 : Base P} {w : World} {F Hp : PH} {hs : List Value} {M : List Blk} (hi : InvS w0 F Hp hs M w) {fs : List (Nat × TypeId)} {place : Nat → Option (Nat × Nat)}
    (hplace : ∀ i off ft df, fs[i]? = some (off, ft) → ty ft = some df → place i = some (off, df.size)) :
    ∀ (parts : List (Nat × Operand)) (ρ : Operand → AV) (ev : Operand → Value) (hr : ∀ x, Rep F Hp hs (ρ x) (ev x)) (l : List AV) (vs : List Value) (cs : List AV), Reps F Hp hs l vs →
      fillL ty fs l (parts.map fun p => (p.1, ρ p.2)) = some cs →
      ∃ us, Instr.fill place vs.toArray (parts.map fun p => (p.1, ev p.2)) = some us.toArray ∧ Reps F Hp hs cs us := by
  intro parts
  induction parts with
  | nil => intro ρ ev hr l vs cs hl h; simp [fillL] at h; subst h; exact ⟨vs, by simp [Instr.fill], hl⟩
  | cons p parts ih =>
    intro ρ ev hr l vs cs hl h
    obtain ⟨i, x⟩ := p
    simp only [List.map_cons, fillL] at h
    split at h
    · rename_i off ft hf
      split at h
      · rename_i df hdf
        split at h
        · rename_i e1 e2 e3
          have e1 := beq_nat e1
          have e2 := Nat.le_of_ble_eq_true e2
          have e3 := Nat.le_of_ble_eq_true e3
          have hne : (ρ x).cells ≠ [] := by
            intro e
            rw [e] at e1
            simp at e1; omega
          have hc := cells_ok hi (hr x) hne
          have hlen : (ev x).cells.size = df.size := by rw [← e1, hc.length]; simp
          have hll := hl.length
          simp only [List.map_cons, Instr.fill, hplace i off ft df hf hdf, hlen]
          rw [if_neg (by simp; omega)]
          have hput := putL_ok (ρ x).cells (ev x).cells.toList off l vs hc hl
          obtain ⟨us, h1, h2⟩ := ih ρ ev hr _ _ cs hput h
          refine ⟨us, ?_, h2⟩
          rw [← h1]
          congr 1
          have := zipIdx_shift (ev x).cells.toList off 0 vs.toArray
          rw [Nat.add_zero] at this
          rw [← this]
          rw [← Array.foldl_toList, Array.toList_zipIdx]
        · cases h
      · cases h
    · cases h

theorem mapM_places {fields : Array Field} (hf : ∀ f ∈ fields.toList, ∃ df, ty f.type = some df) (hty : TyOk P ty) (w : World) :
    (fields.mapM (fun f => do pure (f.offset, ← sizeOf f.type)) : Sem (Array (Nat × Nat))).run P w = .ok (fields.toList.map (fun f => (f.offset, ((ty f.type).map TD.size).getD 0))).toArray w := by
  rw [Array.mapM_eq_mapM_toList]
  simp only [Sem.run_map]
  have : ∀ l : List Field, (∀ f ∈ l, ∃ df, ty f.type = some df) → (l.mapM (fun f => do pure (f.offset, ← sizeOf f.type)) : Sem (List (Nat × Nat))).run P w = .ok (l.map (fun f => (f.offset, ((ty f.type).map TD.size).getD 0))) w := by
    intro l
    induction l with
    | nil => intro _; rfl
    | cons f l ih =>
      intro hl
      obtain ⟨df, hdf⟩ := hl f (by simp)
      obtain ⟨uf, fi, frow⟩ := hty _ _ hdf
      rw [List.mapM_cons]
      simp only [Sem.run_bind, frow.run_size, Result.andThen_ok, Sem.run_pure]
      rw [ih (fun g hg => hl g (by simp [hg]))]
      simp [hdf]
  rw [this _ hf]
  simp
theorem evBuild_ok (hty : TyOk P ty) {t : TypeId} {parts : Array (Nat × Operand)} {ρ : Operand → AV} {K : AV → Prop} (h : evBuild ty t (parts.toList.map fun (i, x) => (i, ρ x)) K) {M : List Blk} :
    ∃ av, K av ∧ ∀ (w0 : Base P) F Hp hs w (ev : Operand → Value), InvS w0 F Hp hs M w → (∀ x, Rep F Hp hs (ρ x) (ev x)) →
      ∃ v, (Instr.build t (parts.map fun (i, x) => (i, ev x))).run P w = .ok v w ∧ Rep F Hp hs av v := by
  unfold evBuild at h
  split at h
  · rename_i d hd
    obtain ⟨ud, ti, row⟩ := hty t d hd
    have hfit := row.fits
    split at h
    · rename_i fs hk
      rw [hk] at hfit
      obtain ⟨fields, rfl, hfs⟩ := hfit
      split at h
      · rename_i hall
        split at h
        · rename_i cs hcs
          refine ⟨_, h, fun w0 F Hp hs w ev hi hr => ?_⟩
          obtain ⟨z, hz1, hz2⟩ := row.zero
          have hzr : Reps F Hp hs (d.zero.map AV.val) d.zero := by
            generalize d.zero = l
            induction l with
            | nil => exact .nil
            | cons x l ih => exact .cons (.val x) ih
          have hknown : ∀ f ∈ fields.toList, ∃ df, ty f.type = some df := by
            intro f hf
            have := List.all_eq_true.1 hall (f.offset, f.type) (by rw [← hfs]; exact List.mem_map.2 ⟨f, hf, rfl⟩)
            exact Option.isSome_iff_exists.1 this
          have hplace : ∀ i off ft df, fs[i]? = some (off, ft) → ty ft = some df → ((fields.toList.map (fun f => (f.offset, ((ty f.type).map TD.size).getD 0))).toArray[·]? : Nat → Option (Nat × Nat)) i = some (off, df.size) := by
            intro i off ft df h1 h2
            rw [← hfs, List.getElem?_map] at h1
            obtain ⟨f, e1, e2⟩ := Option.map_eq_some_iff.1 h1
            cases e2
            simp only [List.getElem?_toArray, List.getElem?_map, e1, Option.map_some, h2, Option.getD_some]
          obtain ⟨us, h1, h2⟩ := fillL_ok hi hplace parts.toList ρ ev hr _ _ cs hzr hcs
          refine ⟨_, ?_, .agg cs us h2⟩
          unfold Instr.build
          have hzv : (zeroValue t).run P w = .ok z w := by simp [zeroValue, row.run_info, hz1]
          have hzc : z.cells = d.zero.toArray := by rw [← hz2]
          simp only [Sem.run_bind, hzv, Result.andThen_ok, row.run_und]
          rw [mapM_places hknown hty]
          simp only [Result.andThen_ok, hzc, Array.toList_map]
          rw [h1]
          rfl
        · exact h.elim
      · exact h.elim
    · exact h.elim
  · exact h.elim
end Go.Sx
end
section
namespace Go.Sx
open Go
variable {P : Program} {ty : Ty}

theorem evR_okP (hty : TyOk P ty) {o : Oper} {ρ : Operand → AV} {M : List Blk} {K : AV → Prop} (h : evR ty o.op ρ M K) : ∃ av, OpPure P o ρ M av ∧ K av := by
  obtain ⟨dst, op, type, pos, after, guard⟩ := o
  simp only at h
  unfold evR at h
  split at h
  · exact ⟨_, fun w0 F Hp hs w ev hi hr => ⟨_, rfl, hr _⟩, h⟩
  · exact ⟨_, fun w0 F Hp hs w ev hi hr => ⟨_, rfl, hr _⟩, h⟩
  · rename_i c a b
    obtain ⟨av, hK, hav⟩ := evPick_ok h
    refine ⟨av, fun w0 F Hp hs w ev hi hr => ?_, hK⟩
    obtain ⟨t, h1, h2⟩ := hav F Hp hs _ _ _ (hr c) (hr a) (hr b)
    exact ⟨_, by simp [execOp, h1, asBool], h2⟩
  · rename_i op t x y ytype
    obtain ⟨av, hK, hav⟩ := evBin_ok hty h
    refine ⟨av, fun w0 F Hp hs w ev hi hr => ?_, hK⟩
    obtain ⟨h0, r, h1, h2⟩ := hav F Hp hs w _ _ (hr x) (hr y)
    exact ⟨r, by simp [execOp, h0, h1], h2⟩
  · rename_i op t x
    obtain ⟨av, hK, hav⟩ := evUn_ok h
    refine ⟨av, fun w0 F Hp hs w ev hi hr => ?_, hK⟩
    obtain ⟨r, h1, h2⟩ := hav P F Hp hs w _ (hr x)
    exact ⟨r, by simp [execOp, h1], h2⟩
  · rename_i src d x
    obtain ⟨av, hK, hav⟩ := evConv_ok hty h
    refine ⟨av, fun w0 F Hp hs w ev hi hr => ?_, hK⟩
    obtain ⟨r, h1, h2⟩ := hav w0 F Hp hs w _ hi (hr x)
    exact ⟨r, by simp [execOp, h1], h2⟩
  · rename_i t x f
    obtain ⟨av, hK, hav⟩ := evField_ok hty h
    refine ⟨av, fun w0 F Hp hs w ev hi hr => ?_, hK⟩
    obtain ⟨r, h1, h2⟩ := hav F Hp hs w _ (hr x)
    exact ⟨r, by simp [execOp, h1], h2⟩
  · rename_i t x f
    obtain ⟨av, hK, hav⟩ := evFieldAddr_ok hty h
    refine ⟨av, fun w0 F Hp hs w ev hi hr => ?_, hK⟩
    obtain ⟨r, h1, h2⟩ := hav F Hp hs w _ (hr x)
    exact ⟨r, by simp [execOp, h1], h2⟩
  · rename_i x i
    obtain ⟨av, hK, hav⟩ := evExtract_ok h
    refine ⟨av, fun w0 F Hp hs w ev hi hr => ?_, hK⟩
    obtain ⟨r, h1, h2⟩ := hav P F Hp hs w _ (hr x)
    exact ⟨r, by simp [execOp, h1], h2⟩
  · rename_i x
    obtain ⟨hK, hav⟩ := evNil_ok h
    refine ⟨_, fun w0 F Hp hs w ev hi hr => ?_, hK⟩
    obtain ⟨a, h1⟩ := hav F Hp hs _ (hr x)
    exact ⟨ev x, by simp only [execOp, h1, Sem.run_pure], hr x⟩
  · rename_i t x i
    obtain ⟨av, hK, hav⟩ := evIndex_ok hty h
    refine ⟨av, fun w0 F Hp hs w ev hi hr => ?_, hK⟩
    obtain ⟨r, h1, h2⟩ := hav F Hp hs w _ _ (hr x) (hr i)
    exact ⟨r, by simp [execOp, h1], h2⟩
  · rename_i t x i
    obtain ⟨av, hK, hav⟩ := evIndexAddr_ok hty h
    refine ⟨av, fun w0 F Hp hs w ev hi hr => ?_, hK⟩
    obtain ⟨r, h1, h2⟩ := hav w0 F Hp hs w _ _ hi (hr x) (hr i)
    exact ⟨r, by simp [execOp, h1], h2⟩
  · rename_i t x
    obtain ⟨av, hK, hav⟩ := evLoad_ok hty h
    refine ⟨av, fun w0 F Hp hs w ev hi hr => ?_, hK⟩
    obtain ⟨r, h1, h2⟩ := hav w0 F Hp hs w _ hi (hr x)
    exact ⟨r, by simp [execOp, h1], h2⟩
  · rename_i t x lo hi mx
    obtain ⟨av, hK, hav⟩ := evSlice_ok hty h
    refine ⟨av, fun w0 F Hp hs w ev hinv hr => ?_, hK⟩
    obtain ⟨r, h1, h2⟩ := hav w0 F Hp hs w _ ev hinv hr (hr x)
    exact ⟨r, by simp [execOp, h1], h2⟩
  · rename_i t parts
    obtain ⟨av, hK, hav⟩ := evBuild_ok hty h (M := M)
    refine ⟨av, fun w0 F Hp hs w ev hinv hr => ?_, hK⟩
    obtain ⟨r, h1, h2⟩ := hav w0 F Hp hs w ev hinv hr
    exact ⟨r, by simp only [execOp, Sem.run_bind, h1, Result.andThen_ok, Sem.run_pure], h2⟩
  · rename_i b xs ts
    split at h
    · split at h
      · rename_i t x hts hxs
        obtain ⟨av, hK, hav⟩ := evLen_ok hty h
        refine ⟨av, fun w0 F Hp hs w ev hi hr => ?_, hK⟩
        obtain ⟨r, h1, h2⟩ := hav w0 F Hp hs w _ type hi (hr x)
        have e1 : ts = #[t] := by rw [← Array.toList_inj, hts]
        have e2 : xs = #[x] := by rw [← Array.toList_inj, hxs]
        subst e1 e2
        exact ⟨r, by simp [execOp, resolve, invoke, builtin, h1], h2⟩
      · exact h.elim
    · obtain ⟨av, hK, hav⟩ := evMx_ok h
      refine ⟨av, fun w0 F Hp hs w ev hi hr => ?_, hK⟩
      have hreps : ∀ l : List Operand, Reps F Hp hs (l.map ρ) (l.map ev) := by
        intro l
        induction l with
        | nil => exact .nil
        | cons x l ih => exact .cons (hr x) ih
      obtain ⟨r, h1, h2⟩ := hav P F Hp hs w _ ts type (hreps xs.toList)
      have e : (xs.toList.map ev).toArray = xs.map ev := by rw [← Array.toList_inj]; simp
      rw [e] at h1
      have h1 : (Builtin.max_ ts type (xs.map ev)).run P w = .ok r w := h1
      exact ⟨r, by simp [execOp, resolve, invoke, builtin, h1], h2⟩
    · obtain ⟨av, hK, hav⟩ := evMx_ok h
      refine ⟨av, fun w0 F Hp hs w ev hi hr => ?_, hK⟩
      have hreps : ∀ l : List Operand, Reps F Hp hs (l.map ρ) (l.map ev) := by
        intro l
        induction l with
        | nil => exact .nil
        | cons x l ih => exact .cons (hr x) ih
      obtain ⟨r, h1, h2⟩ := hav P F Hp hs w _ ts type (hreps xs.toList)
      have e : (xs.toList.map ev).toArray = xs.map ev := by rw [← Array.toList_inj]; simp
      rw [e] at h1
      have h1 : (Builtin.min_ ts type (xs.map ev)).run P w = .ok r w := h1
      exact ⟨r, by simp [execOp, resolve, invoke, builtin, h1], h2⟩
    · exact h.elim
  · exact h.elim
theorem evR_ok (hty : TyOk P ty) {o : Oper} {ρ : Operand → AV} {M : List Blk} {K : AV → Prop} (h : evR ty o.op ρ M K) : ∃ av, OpOk P o ρ M av ∧ K av :=
  let ⟨av, h1, h2⟩ := evR_okP hty h; ⟨av, OpOk.pure h1, h2⟩
end Go.Sx
end
section
namespace Go.Sx
open Go
variable {P : Program} {ty : Ty}

/-! operations that turn what is owned, or make more -/
def OpOkW (P : Program) (o : Oper) (ρ : Operand → AV) (M : List Blk) (av : AV) (M' : List Blk) : Prop :=
  ∀ (w0 : Base P) F Hp hs w (ev : Operand → Value), InvS w0 F Hp hs M w → (∀ x, Rep F Hp hs (ρ x) (ev x)) →
    ∃ v Hp' ex w', ((execOp ev o).run P w = .ok (.value v) w' ∨ ((execOp ev o).run P w = .ok .skip w' ∧ v = undef)) ∧ Hp.le Hp' ∧ InvS w0 F Hp' (hs ++ ex) M' w' ∧ Rep F Hp' (hs ++ ex) av v
theorem OpOk.toW {o : Oper} {ρ : Operand → AV} {M : List Blk} {av : AV} (h : OpOk P o ρ M av) : OpOkW P o ρ M av M :=
  fun w0 F Hp hs w ev hi hr => let ⟨v, Hp', w', h1, h2, h3, h4⟩ := h w0 F Hp hs w ev hi hr; ⟨v, Hp', [], w', .inl h1, h2, by simpa using h3, by simpa using h4⟩

/-- may it be stored in one cell? -/
def AV.one : AV → Bool
  | .val v => v.oneCell'
  | .agg _ | .tup _ | .top => false
  | _ => true
theorem one_ok {w0 : Base P} {w : World} {F Hp : PH} {hs : List Value} {M : List Blk} (hi : InvS w0 F Hp hs M w) {x : AV} {v : Value} (h : Rep F Hp hs x v) (ho : x.one = true) : v.oneCell' = true := by
  cases h <;> first | rfl | exact ho | (simp [AV.one] at ho; done) | skip
  rename_i n hn
  exact hi.one v (List.mem_of_getElem? hn)

theorem Reps.of_get {F Hp : PH} {hs : List Value} : ∀ {a : List AV} {v : List Value}, a.length = v.length → (∀ (i : Nat) x u, a[i]? = some x → v[i]? = some u → Rep F Hp hs x u) → Reps F Hp hs a v
  | [], [], _, _ => .nil
  | [], _ :: _, h, _ => by simp at h
  | _ :: _, [], h, _ => by simp at h
  | a :: ags, v :: vs, h, g => .cons (g 0 a v rfl rfl) (Reps.of_get (by simpa using h) (fun i x u h1 h2 => g (i + 1) x u (by simpa using h1) (by simpa using h2)))
theorem Reps.get2 {F Hp : PH} {hs : List Value} {a : List AV} {v : List Value} (h : Reps F Hp hs a v) {i : Nat} {x : AV} {u : Value} (h1 : a[i]? = some x) (h2 : v[i]? = some u) : Rep F Hp hs x u := by
  obtain ⟨u', e, g⟩ := h.get i x h1
  rw [h2] at e; cases e; exact g

/-- cells laid over others -/
def spl {α : Type} (c : List α) (o : Nat) (new : List α) : List α := c.take o ++ new ++ c.drop (o + new.length)
theorem spl_len {α : Type} {c new : List α} {o : Nat} (h : o + new.length ≤ c.length) : (spl c o new).length = c.length := by
  simp [spl]; omega
theorem spl_get {α : Type} {c new : List α} {o : Nat} (h : o + new.length ≤ c.length) (j : Nat) : (spl c o new)[j]? = if j < o then c[j]? else if j < o + new.length then new[j - o]? else c[j]? := by
  unfold spl
  have hl : (c.take o).length = o := by rw [List.length_take]; omega
  by_cases h1 : j < o
  · rw [if_pos h1, List.append_assoc, List.getElem?_append_left (by omega), List.getElem?_take, if_pos h1]
  · rw [if_neg h1]
    by_cases h2 : j < o + new.length
    · rw [if_pos h2, List.append_assoc, List.getElem?_append_right (by omega), hl, List.getElem?_append_left (by omega)]
    · rw [if_neg h2, List.getElem?_append_right (by rw [List.length_append]; omega), List.length_append, hl, List.getElem?_drop]
      congr 1; omega
theorem putL_get : ∀ (xs : List AV) (off : Nat) (l : List AV), off + xs.length ≤ l.length → putL off xs l = spl l off xs := by
  intro xs
  induction xs with
  | nil => intro off l h; simp [putL, spl]
  | cons x xs ih =>
    intro off l h
    simp only [List.length_cons] at h
    rw [putL, ih _ _ (by simp; omega)]
    apply List.ext_getElem?
    intro j
    rw [spl_get (by simp; omega), spl_get (by simp; omega)]
    simp only [List.length_cons, List.getElem?_set]
    by_cases h1 : j < off
    · rw [if_pos h1, if_pos (by omega), if_neg (by omega)]
    · by_cases h2 : j = off
      · subst h2; simp; omega
      · by_cases h3 : j < off + 1 + xs.length
        · rw [if_neg h1, if_neg (by omega), if_pos (by omega), if_pos (by omega)]
          obtain ⟨k, rfl⟩ : ∃ k, j = off + 1 + k := ⟨j - off - 1, by omega⟩
          rw [show off + 1 + k - (off + 1) = k by omega, show off + 1 + k - off = k + 1 by omega]; simp
        · rw [if_neg h1, if_neg (by omega), if_neg (by omega), if_neg (by omega), if_neg (by omega)]
theorem Reps.spl {F Hp : PH} {hs : List Value} {a new : List AV} {v newv : List Value} {o : Nat} (h : Reps F Hp hs a v) (g : Reps F Hp hs new newv) : Reps F Hp hs (spl a o new) (Go.Sx.spl v o newv) := by
  unfold Go.Sx.spl
  rw [g.length]
  exact ((h.take o).append g).append (h.drop _)

/-- a row written over, at a place -/
theorem Turned.setRow {w : World} {g : Nat} {c c' : Array Value} {T : TypeId} (h : w.heap[g]? = some (.cells c T (0, 0))) : Turned w (w.setRow g c') g (.cells c' T (0, 0)) := by
  refine ⟨setRow_heap w g c _ T _ h, fun k hk => ?_, rfl, rfl, rfl⟩
  simp only [World.setRow, Array.getElem?_modify]
  rw [if_neg (fun e => hk e.symm)]

def evBox (x : AV) (M : List Blk) (K : AV → List Blk → Prop) : Prop :=
  match x.cells with
  | [] => False
  | c :: cs => K (.ptr M.length 0) (M ++ [.flat (c :: cs)])
def evAlloc (ty : Ty) (t : TypeId) (M : List Blk) (K : AV → List Blk → Prop) : Prop :=
  match ty t with
  | some d => K (.ptr M.length 0) (M ++ [.flat (d.zero.map .val)])
  | none => False
/-- a list of cells ags an element -/
def dec : (k : Kd) → List AV → Option (El k)
  | .int k, [.val (.int k' n)] => match decide (k' = k) with
    | true => some n
    | false => none
  | .bool, [.tt] => some true
  | .bool, [.ff] => some false
  | .bool, [.val (.bool b)] => some b
  | .str, [.val (.string s)] => some s
  | .cell, [.val (.int .i64 r), .val (.string s), .val (.int .i64 w), .val (.int .i64 f), .val (.int .i64 b), .val (.int .i64 g)] => some ⟨r, s, w, ⟨f, b, g⟩⟩
  | .cur, [.val (.int .i64 r), .val (.int .i64 c), w, .val (.int .i64 f), .val (.int .i64 b), .val (.int .i64 g), .val (.int .i64 g0), .val (.int .i64 g1), .val (.int .i64 sh), o] =>
    match w.bool?, o.bool? with
    | some w, some o => some ⟨r, c, w, ⟨f, b, g⟩, g0, g1, sh, o⟩
    | _, _ => none
  | .span, [.val (.int .i64 a), .val (.int .i64 b)] => some ⟨a, b⟩
  | .ev, [.val (.int .i64 k), .val (.int .i64 r), .sl (.int .i64) ps, .val (.string i), .val (.string t)] => some ⟨k, r, ps, i, t⟩
  | .ev, [.val (.int .i64 k), .val (.int .i64 r), .val (.slice none 0 0), .val (.string i), .val (.string t)] => some ⟨k, r, [], i, t⟩
  | .parse, [.val (.int .i64 k), .val (.string r), .sl (.int .i64) ps, .val (.string i), .val (.string t)] => some ⟨k, r, ps, i, t⟩
  | .parse, [.val (.int .i64 k), .val (.string r), .val (.slice none 0 0), .val (.string i), .val (.string t)] => some ⟨k, r, [], i, t⟩
  | .vev a b c d, [.ifc T x] => match Nat.beq T a, Nat.beq T b, Nat.beq T c, Nat.beq T d, x with
    | true, false, false, false, .val (.int .i64 r) => some (.printed r)
    | false, true, false, false, .val (.int .u8 r) => some (.control r)
    | false, false, true, false, .agg [q, .val (.int .u8 l), .sl (.int .i64) ps, .val (.string i)] => (q.bool?).map fun q => .sequence q l ps i
    | false, false, true, false, .agg [q, .val (.int .u8 l), .val (.slice none 0 0), .val (.string i)] => (q.bool?).map fun q => .sequence q l [] i
    | false, false, false, true, .val (.string s) => some (.osc s)
    | _, _, _, _, _ => none
  | _, _ => none
theorem dec_ok {F Hp : PH} {hs : List Value} {k : Kd} {cs : List AV} {y : El k} (h : dec k cs = some y) {vs : List Value} (hr : Reps F Hp hs cs vs) : Reps F Hp hs (enc k y) vs := by
  unfold dec at h
  split at h
  · split at h
    · rename_i e; have e := of_decide_eq_true e; subst e; cases h; exact hr
    · cases h
  · cases h
    obtain ⟨u, v', rfl, h1, h2⟩ := Reps.inv_cons hr
    cases h2.inv_nil; cases h1.inv_tt; exact .cons (.val _) .nil
  · cases h
    obtain ⟨u, v', rfl, h1, h2⟩ := Reps.inv_cons hr
    cases h2.inv_nil; cases h1.inv_ff; exact .cons (.val _) .nil
  · cases h; exact hr
  · cases h; exact hr
  · cases h; exact hr
  · rename_i r c w f b g g0 g1 sh o
    split at h
    · rename_i w' o' hw ho
      cases h
      refine Reps.of_get (by rw [← hr.length]; rfl) fun i x u h1 h2 => ?_
      obtain ⟨x', e1, e2⟩ := hr.getv i u h2
      match i, h1, e1 with
      | 0, h1, e1 => cases h1; cases e1; exact e2
      | 1, h1, e1 => cases h1; cases e1; exact e2
      | 2, h1, e1 => cases h1; cases e1; cases bool?_rep hw e2; exact .val _
      | 3, h1, e1 => cases h1; cases e1; exact e2
      | 4, h1, e1 => cases h1; cases e1; exact e2
      | 5, h1, e1 => cases h1; cases e1; exact e2
      | 6, h1, e1 => cases h1; cases e1; exact e2
      | 7, h1, e1 => cases h1; cases e1; exact e2
      | 8, h1, e1 => cases h1; cases e1; exact e2
      | 9, h1, e1 => cases h1; cases e1; cases bool?_rep ho e2; exact .val _
      | n + 10, h1, e1 => cases h1
    · cases h
  · cases h; exact hr
  · cases h; exact hr
  · cases h
    obtain ⟨u1, v1, rfl, q1, t1⟩ := Reps.inv_cons hr
    obtain ⟨u2, v2, rfl, q2, t2⟩ := Reps.inv_cons t1
    obtain ⟨u3, v3, rfl, q3, t3⟩ := Reps.inv_cons t2
    cases q3.inv_val
    exact .cons q1 (.cons q2 (.cons (Rep.nil_sl _) t3))
  · cases h; exact hr
  · cases h
    obtain ⟨u1, v1, rfl, q1, t1⟩ := Reps.inv_cons hr
    obtain ⟨u2, v2, rfl, q2, t2⟩ := Reps.inv_cons t1
    obtain ⟨u3, v3, rfl, q3, t3⟩ := Reps.inv_cons t2
    cases q3.inv_val
    exact .cons q1 (.cons q2 (.cons (Rep.nil_sl _) t3))
  · rename_i a b c d T x
    split at h
    · rename_i e _ _ _; have e := beq_nat e; subst e; cases h; exact hr
    · rename_i _ e _ _; have e := beq_nat e; subst e; cases h; exact hr
    · rename_i q l ps i _ _ e _
      have e := beq_nat e; subst e
      obtain ⟨q', hq, rfl⟩ := Option.map_eq_some_iff.1 h
      obtain ⟨u, v', rfl, h1, h2⟩ := Reps.inv_cons hr
      cases h2.inv_nil
      cases h1 with
      | ifc _ _ v h1 =>
        obtain ⟨vs, rfl, g1⟩ := h1.inv_agg
        obtain ⟨u1, v1, rfl, q1, t1⟩ := Reps.inv_cons g1
        cases bool?_rep hq q1
        exact .cons (.ifc _ _ _ (.agg _ _ (.cons (.val _) t1))) .nil
    · rename_i q l i _ _ e _
      have e := beq_nat e; subst e
      obtain ⟨q', hq, rfl⟩ := Option.map_eq_some_iff.1 h
      obtain ⟨u, v', rfl, h1, h2⟩ := Reps.inv_cons hr
      cases h2.inv_nil
      cases h1 with
      | ifc _ _ v h1 =>
        obtain ⟨vs, rfl, g1⟩ := h1.inv_agg
        obtain ⟨u1, v1, rfl, q1, t1⟩ := Reps.inv_cons g1
        obtain ⟨u2, v2, rfl, q2, t2⟩ := Reps.inv_cons t1
        obtain ⟨u3, v3, rfl, q3, t3⟩ := Reps.inv_cons t2
        cases bool?_rep hq q1
        cases q3.inv_val
        exact .cons (.ifc _ _ _ (.agg _ _ (.cons (.val _) (.cons q2 (.cons (Rep.nil_sl _) t3))))) .nil
    · rename_i _ _ _ e; have e := beq_nat e; subst e; cases h; exact hr
    · cases h
  · cases h
end Go.Sx
end
