/- Part 1 of what the claim rests on: Lib, Mem, App2, A1, SInt64, Nm, Cur, Flat, FlatS, P1, P3, P4, SPair, App, P7, Reg, Set, Cur2, Dice, Bk, Wr2, D1, P8, PutL, InsP, P11, Del, P10, D2. No condition of its own. -/
import Derived.WalkKit
import Derived.WalkSpells
import Derived.WalkLawsBesides
import Derived.Deep.QuietTactic
import Derived.BigQuiet
import Derived.Below
import Derived.Lib.Hide
import Derived.Handy
import Derived.Maps.AppendAt
import Derived.OwnWalk
import Derived.Test.YtokklkmibjpjnaaProg
import Derived.ProofKit
import Derived.Deep.Slices
import Derived.Laws.AppendOwnNone
import Derived.StillTailTactics
import Derived.Outline
import Derived.Laws.IdiomCopy
import Derived.Lib.SliceRun
import Derived.Lib.AppendZerosOnto
import Derived.Laws.BitsAllLaws
import Derived.Deep.RegionLaw
import Derived.Lib.Overlaps
import Derived.Lib.AppendZeros
import Derived.Laws.Externs
import Derived.Laws.NewBlocks
namespace Go.Proofs.Ytokklkmibjpjnaa
set_option linter.unusedSimpArgs false
set_option linter.unusedVariables false
open Go.RowKit

theorem n_lt2 (n : Nat) : (n < n + 1 + 1) = True := by simp; omega
theorem n_lt3 (n : Nat) : (n < n + 1 + 1 + 1) = True := by simp; omega
theorem n_lt4 (n : Nat) : (n < n + 1 + 1 + 1 + 1) = True := by simp; omega
theorem n_le2 (n : Nat) : (n ≤ n + 1 + 1) = True := by simp; omega
theorem n_le3 (n : Nat) : (n ≤ n + 1 + 1 + 1) = True := by simp; omega

/-- A world that is W but for new memory. -/
structure Ext (W : World) where
  w : World
  h : Below W.heap.size W w

instance (W : World) : Inhabited (Ext W) := ⟨⟨W, Below.refl _ _⟩⟩

theorem Ext.cell {W : World} (z : Ext W) (b o : Nat) (hb : b < W.heap.size) : z.w.cell? ⟨b, o, none⟩ = W.cell? ⟨b, o, none⟩ := z.h.cell (p := ⟨b, o, none⟩) hb
theorem Ext.frozen {W : World} (z : Ext W) (b o : Nat) (hb : b < W.heap.size) : z.w.frozen? ⟨b, o, none⟩ = W.frozen? ⟨b, o, none⟩ := z.h.frozen (p := ⟨b, o, none⟩) hb

/-- A frame, cell by cell: the walk uses it as two rules. -/
theorem bcell {W w1 : World} (hb : Below W.heap.size W w1) : (∀ b o, b < W.heap.size → w1.cell? ⟨b, o, none⟩ = W.cell? ⟨b, o, none⟩) ∧ (∀ b o, b < W.heap.size → w1.frozen? ⟨b, o, none⟩ = W.frozen? ⟨b, o, none⟩) ∧
    (∀ x, x < W.heap.size → x < w1.heap.size) ∧ (∀ x, x ≤ W.heap.size → x ≤ w1.heap.size) ∧ (∀ x k, x < W.heap.size → x < w1.heap.size + k) ∧ (∀ x k, x ≤ W.heap.size → x ≤ w1.heap.size + k) :=
  ⟨fun b o h => hb.cell (p := ⟨b, o, none⟩) h, fun b o h => hb.frozen (p := ⟨b, o, none⟩) h, fun _ h => Nat.lt_of_lt_of_le h hb.size, fun _ h => Nat.le_trans h hb.size, fun _ _ h => Nat.lt_of_lt_of_le h (Nat.le_trans hb.size (Nat.le_add_right _ _)), fun _ _ h => Nat.le_trans h (Nat.le_trans hb.size (Nat.le_add_right _ _))⟩

theorem below_drewN {B : Nat} {a w : World} (h : Below B a w) (n : Nat) : Below B a (w.drewN n) := ⟨h.os, h.tape, h.output, h.size, h.block⟩

/-- One call more. -/
theorem bstep {B : Nat} {a W w' : World} (h : Below W.heap.size W w') (h1 : Below B a W) (hB : B ≤ W.heap.size) : Below B a w' := h1.trans (h.mono hB)

/-- A region that draws its order, whose operations only read and whose callees make at most new memory: one walk in the order of the text. -/
theorem wp_region_ext {P : Program} {id : Nat} {Q : Exit → Act → World → Prop} {a : Act} {w : World} {l : List Oper} (hm : P.follows .mixedOrders = true) (hB : Region.lexB .any l.toArray = true)
    (h : wpQuiet P l.toArray (fun w' => ∃ z : Ext w, w' = z.w) (fun a' => ∀ w', (∃ z : Ext w, w' = z.w) → Q .normal a' w') l a) : (Code.region id l.toArray true).wp P Q a w :=
  wp_region_quiet (C := fun w' => ∃ z : Ext w, w' = z.w) hm hB ⟨⟨{ w with drawn := w.drawn + 1 }, ⟨rfl, rfl, rfl, Nat.le_refl _, fun _ _ => rfl⟩⟩, rfl⟩ (by simpa using h)

/-- A callee's contract inside such a region. -/
theorem quiet_ext {P : Program} {f : FuncId} {args : Array Value} {W : World} {z : Ext W} {v : Value}
    (h : Calls P f args z.w fun e w' => e = .returned v ∧ Below z.w.heap.size z.w w') : Calls P f args z.w fun e w'' => e = .returned v ∧ ∃ z' : Ext W, w'' = z'.w :=
  h.mono fun _ w'' ⟨he, hm⟩ => ⟨he, ⟨w'', bstep hm z.h z.h.size⟩, rfl⟩
theorem quiet_ext_same {P : Program} {f : FuncId} {args : Array Value} {W : World} {z : Ext W} {v : Value}
    (h : Calls P f args z.w fun e w' => e = .returned v ∧ z.w = w') : Calls P f args z.w fun e w'' => e = .returned v ∧ ∃ z' : Ext W, w'' = z'.w :=
  h.mono fun _ _ ⟨he, hm⟩ => ⟨he, z, hm.symm⟩

theorem ret_bool {a b : Bool} (h : a = b) : Ending.returned (.bool a) = .returned (.bool b) := by rw [h]
theorem ret_int {k : IntKind} {a b : Int} (h : a = b) : Ending.returned (.int k a) = .returned (.int k b) := by rw [h]
theorem all_range_false {n k : Nat} {f : Nat → Bool} (hk : k < n) (hf : f k = false) : (List.range n).all f = false := by
  rw [List.all_eq_false]
  exact ⟨k, List.mem_range.2 hk, by simp [hf]⟩
theorem all_range_true {n : Nat} {f : Nat → Bool} (h : ∀ j, j < n → f j = true) : (List.range n).all f = true := by
  rw [List.all_eq_true]
  exact fun j hj => h j (List.mem_range.1 hj)
theorem upto_succ {k : Nat} {f : Nat → Bool} (h : ∀ j, j < k → f j = true) (hk : f k = true) : ∀ j, j < k + 1 → f j = true := fun j hj => by
  rcases Nat.lt_or_ge j k with h1 | h1
  · exact h j h1
  · obtain rfl : j = k := by omega
    exact hk

end Go.Proofs.Ytokklkmibjpjnaa
namespace Go.Proofs.Ytokklkmibjpjnaa
set_option linter.unusedSimpArgs false
set_option linter.unusedVariables false
attribute [local go_sem] n_lt2 n_lt3 n_lt4 n_le2 n_le3
open Go.RowKit

def ints (zs : List Int) : List Value := zs.map (Value.int .i64)
theorem ints_length (zs : List Int) : (ints zs).length = zs.length := by simp [ints]
theorem ints_get (zs : List Int) (j : Nat) (h : j < zs.length) : (ints zs)[j]? = some (.int .i64 (zs.getD j 0)) := by
  simp [ints, List.getD, h]
theorem ints_oneCell' (zs : List Int) : ∀ u ∈ ints zs, u.oneCell' = true := ints_oneCell .i64 zs
theorem ints_append (a b : List Int) : ints (a ++ b) = ints a ++ ints b := by simp [ints]
theorem ints_inj {a b : List Int} (h : ints a = ints b) : a = b := by
  unfold ints at h
  exact List.map_inj_right (fun x y hxy => by injection hxy) |>.1 h

/-- The slice value '.slice A n _' of elements of s cells reads as the numbers zs, one behind the other. -/
def Sl (w : World) (s : Nat) (A : Option Addr) (n : Nat) (zs : List Int) : Prop :=
  zs.length = n * s ∧ (0 < n → ∃ b off, A = some ⟨b, off, none⟩ ∧ b < w.heap.size ∧ ∀ j, j < n * s → w.cell? ⟨b, off + j, none⟩ = some (.int .i64 (zs.getD j 0)))

theorem Sl.len {w : World} {s : Nat} {A : Option Addr} {n : Nat} {zs : List Int} (h : Sl w s A n zs) : zs.length = n * s := h.1
theorem Sl.nil (w : World) (s : Nat) (A : Option Addr) : Sl w s A 0 [] := ⟨by simp, fun h => absurd h (by omega)⟩
theorem Sl.keep {w w' : World} {s : Nat} {A : Option Addr} {n : Nat} {zs : List Int} (h : Sl w s A n zs) (hs : w.heap.size ≤ w'.heap.size) (hc : ∀ p : Addr, A.map (·.block) = some p.block → w'.cell? p = w.cell? p) : Sl w' s A n zs :=
  ⟨h.1, fun hn => by
    obtain ⟨b, off, rfl, hb, hj⟩ := h.2 hn
    exact ⟨b, off, rfl, Nat.lt_of_lt_of_le hb hs, fun j hjn => (hc ⟨b, off + j, none⟩ rfl).trans (hj j hjn)⟩⟩
theorem Sl.below {w w' : World} {s : Nat} {A : Option Addr} {n : Nat} {zs : List Int} (h : Sl w s A n zs) (hb : Below w.heap.size w w') : Sl w' s A n zs :=
  ⟨h.1, fun hn => by
    obtain ⟨b, off, rfl, hbl, hj⟩ := h.2 hn
    exact ⟨b, off, rfl, Nat.lt_of_lt_of_le hbl hb.size, fun j hjn => (hb.cell hbl).trans (hj j hjn)⟩⟩
theorem Sl.drew {w : World} {s : Nat} {A : Option Addr} {n : Nat} {zs : List Int} (h : Sl w s A n zs) : Sl w.drew s A n zs := h
theorem Sl.at_ {w : World} {s : Nat} {A : Option Addr} {n : Nat} {zs : List Int} (h : Sl w s A n zs) (hn : 0 < n) :
    ∃ b off, A = some ⟨b, off, none⟩ ∧ b < w.heap.size ∧ ∀ j, j < n * s → w.cell? ⟨b, off + j, none⟩ = some (.int .i64 (zs.getD j 0)) := h.2 hn

/-- A row of the call's own, from block lo on: its slice value is '.slice A n cap', its numbers zs. -/
def Row (w : World) (lo : Nat) (e : TypeId) (s : Nat) (A : Option Addr) (n cap : Nat) (zs : List Int) : Prop := w.ownsRow lo e s (.slice A n cap) n (ints zs)

/-- The blocks of a slice lie below hi. -/
def LtB (A : Option Addr) (hi : Nat) : Prop := ∀ a, A = some a → a.block < hi
theorem LtB.mono {A : Option Addr} {hi hi' : Nat} (h : LtB A hi) (hh : hi ≤ hi') : LtB A hi' := fun a ha => Nat.lt_of_lt_of_le (h a ha) hh

theorem Row.lt {w : World} {lo : Nat} {e : TypeId} {s : Nat} {A : Option Addr} {n cap : Nat} {zs : List Int} (h : Row w lo e s A n cap zs) : LtB A w.heap.size := fun a ha => by
  subst ha
  exact (World.ownsRow.lt h a.block rfl).2
theorem Row.ge {w : World} {lo : Nat} {e : TypeId} {s : Nat} {A : Option Addr} {n cap : Nat} {zs : List Int} (h : Row w lo e s A n cap zs) : ∀ a, A = some a → lo ≤ a.block := fun a ha => by
  subst ha
  exact (World.ownsRow.lt h a.block rfl).1
theorem Row.len {w : World} {lo : Nat} {e : TypeId} {s : Nat} {A : Option Addr} {n cap : Nat} {zs : List Int} (h : Row w lo e s A n cap zs) : zs.length = n * s := by
  have := h.1
  rwa [ints_length] at this
theorem Row.sl {w : World} {lo : Nat} {e : TypeId} {s : Nat} {A : Option Addr} {n cap : Nat} {zs : List Int} (h : Row w lo e s A n cap zs) : Sl w s A n zs := by
  refine ⟨h.len, fun hn => ?_⟩
  have hlt := h.lt
  have hl := h.len
  rcases h.2 with ⟨_, h0⟩ | ⟨g, c, cur, hv, _, hg, _, _, hcs, ht⟩
  · omega
  · obtain ⟨rfl, rfl⟩ : A = some ⟨g, 0, none⟩ ∧ cap = c := by
      injection hv with h1 _ h3
      exact ⟨h1, h3⟩
    refine ⟨g, 0, rfl, hlt _ rfl, fun j hj => ?_⟩
    have hc := World.ownsRow.cellAt h j hj
    rw [Nat.zero_add, hc]
    exact ints_get zs j (by omega)
theorem Row.keep {w w' : World} {lo : Nat} {e : TypeId} {s : Nat} {A : Option Addr} {n cap : Nat} {zs : List Int} (h : Row w lo e s A n cap zs) (hk : ∀ a, A = some a → w'.heap[a.block]? = w.heap[a.block]?) : Row w' lo e s A n cap zs := by
  refine ⟨h.1, ?_⟩
  rcases h.2 with hn | ⟨g, c, cur, hv, hb, hg, rest⟩
  · exact .inl hn
  · refine .inr ⟨g, c, cur, hv, hb, ?_, rest⟩
    have hA : A = some ⟨g, 0, none⟩ := by injection hv
    rw [hk _ hA]
    exact hg
theorem Row.below {w w' : World} {lo : Nat} {e : TypeId} {s : Nat} {A : Option Addr} {n cap : Nat} {zs : List Int} (h : Row w lo e s A n cap zs) (hb : Below w.heap.size w w') : Row w' lo e s A n cap zs :=
  h.keep fun a ha => hb.block _ (h.lt a ha)
theorem Row.mono {w : World} {lo lo' : Nat} {e : TypeId} {s : Nat} {A : Option Addr} {n cap : Nat} {zs : List Int} (h : Row w lo e s A n cap zs) (hl : lo' ≤ lo) : Row w lo' e s A n cap zs := by
  refine ⟨h.1, ?_⟩
  rcases h.2 with hn | ⟨g, c, cur, hv, hb, rest⟩
  · exact .inl hn
  · exact .inr ⟨g, c, cur, hv, Nat.le_trans hl hb, rest⟩
theorem Row.nil (w : World) (lo : Nat) (e : TypeId) (s : Nat) : Row w lo e s none 0 0 [] := World.ownsRow_nil w lo e s
theorem Row.cap_le {w : World} {lo : Nat} {e : TypeId} {s : Nat} {A : Option Addr} {n cap : Nat} {zs : List Int} (h : Row w lo e s A n cap zs) : n ≤ cap ∧ cap ≤ maxLen := by
  rcases h.2 with ⟨hv, rfl⟩ | ⟨g, c, cur, hv, _, _, h1, h2, _⟩
  · injection hv with _ _ hc
    subst hc
    exact ⟨Nat.le_refl _, by simp⟩
  · injection hv with _ _ hc
    subst hc
    exact ⟨h1, h2⟩

/-- Only the row at A (and new memory) has been written. -/
def Wrote (w w' : World) (A : Option Addr) : Prop := w.grownBy w' (A.map (·.block))
theorem Wrote.size {w w' : World} {A : Option Addr} (h : Wrote w w' A) : w.heap.size ≤ w'.heap.size := World.grownBy.size h
/-- A row made before the written one. -/
theorem Row.wrote {w w' : World} {lo : Nat} {e : TypeId} {s : Nat} {A B : Option Addr} {n cap : Nat} {zs : List Int} (h : Row w lo e s A n cap zs) (hw : Wrote w w' B) (hne : ∀ a b, A = some a → B = some b → a.block ≠ b.block) : Row w' lo e s A n cap zs :=
  h.keep fun a ha => World.grownBy.block hw _ (h.lt a ha) (by
    cases B with
    | none => simp
    | some b => simp only [Option.map_some, ne_eq, Option.some.injEq]; exact hne a b ha rfl)
theorem Sl.wrote {w w' : World} {s : Nat} {A B : Option Addr} {n : Nat} {zs : List Int} (h : Sl w s A n zs) (hw : Wrote w w' B) (hne : 0 < n → ∀ a b, A = some a → B = some b → a.block ≠ b.block) : Sl w' s A n zs :=
  ⟨h.1, fun hn => by
    obtain ⟨b, off, rfl, hbl, hj⟩ := h.2 hn
    refine ⟨b, off, rfl, Nat.lt_of_lt_of_le hbl hw.size, fun j hjn => ?_⟩
    rw [World.cell?_of_block (World.grownBy.block hw _ hbl (by
      cases B with
      | none => simp
      | some c => simp only [Option.map_some, ne_eq, Option.some.injEq]; exact hne hn _ c rfl rfl))]
    exact hj j hjn⟩
theorem Sl.lt {w : World} {s : Nat} {A : Option Addr} {n : Nat} {zs : List Int} (h : Sl w s A n zs) (hn : 0 < n) : LtB A w.heap.size := fun a ha => by
  obtain ⟨b, off, rfl, hbl, _⟩ := h.2 hn
  obtain rfl := Option.some.inj ha
  exact hbl
/-- Two rows, one made before the other: no block is in both. -/
theorem apart_of {A B : Option Addr} {hi : Nat} (hA : LtB A hi) (hB : ∀ b, B = some b → hi ≤ b.block) : ∀ a b, A = some a → B = some b → a.block ≠ b.block := fun a b ha hb e => by
  have h1 := hA a ha
  have h2 := hB b hb
  omega
theorem apart_symm {A B : Option Addr} (h : ∀ a b, A = some a → B = some b → a.block ≠ b.block) : ∀ a b, B = some a → A = some b → a.block ≠ b.block := fun a b ha hb e => h b a hb ha e.symm
/-- The frame of the whole: a row of the call's own was written. -/
theorem Wrote.below {B : Nat} {a w w' : World} {A : Option Addr} (h : Wrote w w' A) (h1 : Below B a w) (hB : B ≤ w.heap.size) (hA : ∀ x, A = some x → B ≤ x.block) : Below B a w' :=
  h1.grown h hB (fun k hk => by
    cases A with
    | none => simp at hk
    | some x => simp only [Option.map_some, Option.some.injEq] at hk; subst hk; exact hA x rfl)

theorem wrote_set {w w' : World} {a : Addr} (h : Wrote w w' (some a)) {p : Addr} (hp : p.block = a.block) (u : Value) : Wrote w (w'.setCell p u) (some a) := by
  refine ⟨h.os, h.tape, h.output, by simpa [World.setCell] using World.grownBy.size h, fun k hk hne => ?_⟩
  rw [Below.heap_setCell w' p u k (by
    rintro rfl
    exact hne (by simp [hp]))]
  exact World.grownBy.block h k hk hne

/-- The frames of two calls, one behind the other. -/
theorem bthen {w a b : World} (h1 : Below w.heap.size w a) (h2 : Below a.heap.size a b) : Below w.heap.size w b := bstep h2 h1 h1.size

/-- A block known whole. -/
def Blk (w : World) (g : Nat) (e : TypeId) (cs : Array Value) : Prop := w.heap[g]? = some (.cells cs e (0, 0))
theorem Blk.lt {w : World} {g : Nat} {e : TypeId} {cs : Array Value} (h : Blk w g e cs) : g < w.heap.size := (Array.getElem?_eq_some_iff.1 h).1
theorem Blk.cell {w : World} {g : Nat} {e : TypeId} {cs : Array Value} (h : Blk w g e cs) (i : Nat) : w.cell? ⟨g, i, none⟩ = cs[i]? := cell_of_row w g i cs e (0, 0) h
theorem Blk.has {w : World} {g : Nat} {e : TypeId} {cs : Array Value} (h : Blk w g e cs) {i : Nat} (hi : i < cs.size) : ∃ c, w.cell? ⟨g, i, none⟩ = some c := ⟨cs[i], by rw [h.cell]; exact Array.getElem?_eq_getElem hi⟩
theorem Blk.frozen {w : World} {g : Nat} {e : TypeId} {cs : Array Value} (h : Blk w g e cs) (i : Nat) : w.frozen? ⟨g, i, none⟩ = false := by
  unfold Blk at h
  simp [World.frozen?, h]
theorem Blk.new (w : World) (e : TypeId) (cs : Array Value) : Blk (w.alloc (.cells cs e)) w.heap.size e cs := heap_alloc_new w _
theorem Blk.alloc {w : World} {g : Nat} {e : TypeId} {cs : Array Value} (h : Blk w g e cs) (o : Obj) : Blk (w.alloc o) g e cs := (Below.heap_alloc w o g h.lt).trans h
theorem Blk.drew {w : World} {g : Nat} {e : TypeId} {cs : Array Value} (h : Blk w g e cs) : Blk w.drew g e cs := h
theorem Blk.set_ {w : World} {g : Nat} {e : TypeId} {cs : Array Value} (h : Blk w g e cs) (i : Nat) (u : Value) : Blk (w.setCell ⟨g, i, none⟩ u) g e (cs.setIfInBounds i u) := by
  unfold Blk at h ⊢
  simp [World.setCell, Array.getElem?_modify, h]
theorem Blk.far {w : World} {g : Nat} {e : TypeId} {cs : Array Value} (h : Blk w g e cs) {p : Addr} (hp : g ≠ p.block) (u : Value) : Blk (w.setCell p u) g e cs := (Below.heap_setCell w p u g hp).trans h
theorem Blk.below {w w' : World} {g : Nat} {e : TypeId} {cs : Array Value} (h : Blk w g e cs) (hb : Below w.heap.size w w') : Blk w' g e cs := (hb.block g h.lt).trans h
theorem Blk.row {w : World} {g lo n : Nat} {e : TypeId} {s : Nat} {cs : Array Value} {zs : List Int} (h : Blk w g e cs) (hlo : lo ≤ g) (hn : n ≤ maxLen) (hcs : cs.size = n * s) (hz : zs.length = n * s) (hj : ∀ j, j < n * s → cs[j]? = some (.int .i64 (zs.getD j 0))) :
    Row w lo e s (some ⟨g, 0, none⟩) n n zs := by
  refine ⟨by rw [ints_length]; exact hz, .inr ⟨g, n, cs, rfl, hlo, h, Nat.le_refl _, hn, hcs, ?_⟩⟩
  rw [List.take_of_length_le (by simp; omega)]
  apply List.ext_getElem?
  intro j
  by_cases hjn : j < n * s
  · rw [ints_get zs j (by omega), ← hj j hjn]; simp
  · rw [List.getElem?_eq_none (by simp; omega), List.getElem?_eq_none (by rw [ints_length]; omega)]
/-- A row's block. -/
theorem Row.blk {w : World} {lo : Nat} {e : TypeId} {s : Nat} {A : Option Addr} {n cap : Nat} {zs : List Int} (h : Row w lo e s A n cap zs) (hn : 0 < n) :
    ∃ g cs, A = some ⟨g, 0, none⟩ ∧ lo ≤ g ∧ Blk w g e cs ∧ n ≤ cap ∧ cap ≤ maxLen ∧ cs.size = cap * s ∧ ∀ j, j < n * s → cs[j]? = some (.int .i64 (zs.getD j 0)) := by
  have hl := h.len
  rcases h.2 with ⟨_, h0⟩ | ⟨g, c, cur, hv, hb, hg, h1, h2, hcs, ht⟩
  · omega
  · obtain ⟨rfl, rfl⟩ : A = some ⟨g, 0, none⟩ ∧ cap = c := by
      injection hv with h1 _ h3
      exact ⟨h1, h3⟩
    refine ⟨g, cur, rfl, hb, hg, h1, h2, hcs, fun j hj => ?_⟩
    have := ints_get zs j (by omega)
    rw [← ht, List.getElem?_take, if_pos hj] at this
    simpa using this
/-- Back: the block with other cells. -/
theorem Row.of_blk {w : World} {g lo n cap : Nat} {e : TypeId} {s : Nat} {cs : Array Value} {zs : List Int} (h : Blk w g e cs) (hlo : lo ≤ g) (hn : n ≤ cap) (hc : cap ≤ maxLen) (hcs : cs.size = cap * s) (hz : zs.length = n * s) (hj : ∀ j, j < n * s → cs[j]? = some (.int .i64 (zs.getD j 0))) :
    Row w lo e s (some ⟨g, 0, none⟩) n cap zs := by
  have hle : n * s ≤ cap * s := Nat.mul_le_mul_right _ hn
  refine ⟨by rw [ints_length]; exact hz, .inr ⟨g, cap, cs, rfl, hlo, h, hn, hc, hcs, ?_⟩⟩
  apply List.ext_getElem?
  intro j
  rw [List.getElem?_take]
  by_cases hjn : j < n * s
  · rw [if_pos hjn, ints_get zs j (by omega), ← hj j hjn]; simp
  · rw [if_neg hjn, List.getElem?_eq_none (by rw [ints_length]; omega)]

/-- What a function that hands back a slice of flat elements leaves: a row of its own, old memory as it was. -/
def RetRow (w : World) (E s n : Nat) (zs : List Int) (e : Ending) (w' : World) : Prop := ∃ A cap, e = .returned (.slice A n cap) ∧ Row w' w.heap.size E s A n cap zs ∧ Below w.heap.size w w'

theorem RetRow.mk {w w' : World} {E s n : Nat} {zs : List Int} {A : Option Addr} {cap : Nat} (h : Row w' w.heap.size E s A n cap zs) (hb : Below w.heap.size w w') : RetRow w E s n zs (.returned (.slice A n cap)) w' := ⟨A, cap, rfl, h, hb⟩

/-- 'make([]T, n)' at a length of at most 2^20, the elements of at most 4096 bytes. -/
theorem make_flat {P : Program} (t e : TypeId) (z : Value) (s bytes : Nat) (ht : P.underlying t = some (.slice e)) (hinfo : (P.info? e).map (fun i => (i.zero, i.size, i.bytes)) = some (some z, s, bytes)) (hb : bytes ≤ 4096) (n : Nat) (hn : n ≤ 1048576) (w : World) :
    (Instr.makeSlice t (.int .i64 (n : Int)) (.int .i64 (n : Int))).run P w = .ok (.slice (some ⟨w.heap.size, 0, none⟩) n n) (w.alloc (.cells (madeCells z.cells (n * s)) e)) := by
  obtain ⟨i, hi, hz, rfl, hby⟩ := info_parts hinfo
  have hle : bytes * n ≤ 4096 * 1048576 := Nat.mul_le_mul hb hn
  have hle' : (i.bytes : Int) * (n : Int) ≤ 281474976710656 := by
    rw [hby, ← Int.natCast_mul]
    omega
  have h := run_make (P := P) w t e i z ht hi hz .i64 .i64 n n (by omega) (Int.le_refl _) hle' (by omega)
  simpa using h

/-- Equal lists, as a Bool that the walk does not open. -/
def eqL (a b : List Int) : Bool := decide (a = b)
theorem eqL_true {a b : List Int} (h : eqL a b = true) : a = b := by simpa [eqL] using h
theorem eqL_false {a b : List Int} (h : ¬ eqL a b = true) : a ≠ b := by simpa [eqL] using h
theorem eqL_self (a : List Int) : eqL a a = true := by simp [eqL]
theorem eqL_ne {a b : List Int} (h : a ≠ b) : eqL a b = false := by simpa [eqL] using h

/-- The numbers k, k + 1, .. (m of them): what the law's marks lay. -/
def marks (k : Int) (m : Nat) : List Int := (List.range m).map fun (j : Nat) => k + (j : Int)
theorem marks_length (k : Int) (m : Nat) : (marks k m).length = m := by simp [marks]
theorem marks_getD (k : Int) (m j : Nat) (h : j < m) : (marks k m).getD j 0 = k + (j : Int) := by simp [marks, List.getD, h]

/-- What mark leaves. -/
def RetMark (w : World) (lo E s : Nat) (A : Option Addr) (n cap : Nat) (k : Int) (e : Ending) (w' : World) : Prop := e = .returned (.int .i64 (k + (n * s : Nat))) ∧ Row w' lo E s A n cap (marks k (n * s)) ∧ Wrote w w' A
theorem RetMark.mk {w w' : World} {lo E s : Nat} {A : Option Addr} {n cap : Nat} {k k' : Int} (hk : k' = k + (n * s : Nat)) (h : Row w' lo E s A n cap (marks k (n * s))) (hw : Wrote w w' A) : RetMark w lo E s A n cap k (.returned (.int .i64 k')) w' := ⟨by rw [hk], h, hw⟩

theorem list_ext_getD {a b : List Int} (hl : a.length = b.length) (h : ∀ j, j < a.length → a.getD j 0 = b.getD j 0) : a = b := by
  apply List.ext_getElem hl
  intro j h1 h2
  have := h j h1
  simpa [List.getD, h1, h2] using this

end Go.Proofs.Ytokklkmibjpjnaa
namespace Go.Proofs.Ytokklkmibjpjnaa
open Go.RowKit
theorem bc3 {w : World} {g e : Nat} {x0 x1 x2 : Value} (h : Blk w g e #[x0, x1, x2]) : w.cell? ⟨g, 0, none⟩ = some x0 ∧ w.cell? ⟨g, 1, none⟩ = some x1 ∧ w.cell? ⟨g, 2, none⟩ = some x2 := ⟨h.cell 0, h.cell 1, h.cell 2⟩
theorem bc5 {w : World} {g e : Nat} {x0 x1 x2 x3 x4 : Value} (h : Blk w g e #[x0, x1, x2, x3, x4]) : w.cell? ⟨g, 0, none⟩ = some x0 ∧ w.cell? ⟨g, 1, none⟩ = some x1 ∧ w.cell? ⟨g, 2, none⟩ = some x2 ∧ w.cell? ⟨g, 3, none⟩ = some x3 ∧ w.cell? ⟨g, 4, none⟩ = some x4 := ⟨h.cell 0, h.cell 1, h.cell 2, h.cell 3, h.cell 4⟩
theorem bc7 {w : World} {g e : Nat} {x0 x1 x2 x3 x4 x5 x6 : Value} (h : Blk w g e #[x0, x1, x2, x3, x4, x5, x6]) : w.cell? ⟨g, 0, none⟩ = some x0 ∧ w.cell? ⟨g, 1, none⟩ = some x1 ∧ w.cell? ⟨g, 2, none⟩ = some x2 ∧ w.cell? ⟨g, 3, none⟩ = some x3 ∧ w.cell? ⟨g, 4, none⟩ = some x4 ∧ w.cell? ⟨g, 5, none⟩ = some x5 ∧ w.cell? ⟨g, 6, none⟩ = some x6 := ⟨h.cell 0, h.cell 1, h.cell 2, h.cell 3, h.cell 4, h.cell 5, h.cell 6⟩
theorem bc9 {w : World} {g e : Nat} {x0 x1 x2 x3 x4 x5 x6 x7 x8 : Value} (h : Blk w g e #[x0, x1, x2, x3, x4, x5, x6, x7, x8]) : w.cell? ⟨g, 0, none⟩ = some x0 ∧ w.cell? ⟨g, 1, none⟩ = some x1 ∧ w.cell? ⟨g, 2, none⟩ = some x2 ∧ w.cell? ⟨g, 3, none⟩ = some x3 ∧ w.cell? ⟨g, 4, none⟩ = some x4 ∧ w.cell? ⟨g, 5, none⟩ = some x5 ∧ w.cell? ⟨g, 6, none⟩ = some x6 ∧ w.cell? ⟨g, 7, none⟩ = some x7 ∧ w.cell? ⟨g, 8, none⟩ = some x8 := ⟨h.cell 0, h.cell 1, h.cell 2, h.cell 3, h.cell 4, h.cell 5, h.cell 6, h.cell 7, h.cell 8⟩
theorem bf5 {w : World} {g e : Nat} {cs : Array Value} (h : Blk w g e cs) : w.frozen? ⟨g, 0, none⟩ = false ∧ w.frozen? ⟨g, 1, none⟩ = false ∧ w.frozen? ⟨g, 2, none⟩ = false ∧ w.frozen? ⟨g, 3, none⟩ = false ∧ w.frozen? ⟨g, 4, none⟩ = false := ⟨h.frozen 0, h.frozen 1, h.frozen 2, h.frozen 3, h.frozen 4⟩
theorem bf7 {w : World} {g e : Nat} {cs : Array Value} (h : Blk w g e cs) : w.frozen? ⟨g, 0, none⟩ = false ∧ w.frozen? ⟨g, 1, none⟩ = false ∧ w.frozen? ⟨g, 2, none⟩ = false ∧ w.frozen? ⟨g, 3, none⟩ = false ∧ w.frozen? ⟨g, 4, none⟩ = false ∧ w.frozen? ⟨g, 5, none⟩ = false ∧ w.frozen? ⟨g, 6, none⟩ = false := ⟨h.frozen 0, h.frozen 1, h.frozen 2, h.frozen 3, h.frozen 4, h.frozen 5, h.frozen 6⟩
end Go.Proofs.Ytokklkmibjpjnaa
namespace Go.Proofs.Ytokklkmibjpjnaa
set_option linter.unusedSimpArgs false
set_option linter.unusedVariables false
attribute [local go_sem] n_lt2 n_lt3 n_lt4 n_le2 n_le3
open Go.RowKit

theorem wpList_append_row2 {P : Program} {ops : Array Oper} {rest : List Oper} {o : Oper} {a : Act} {w : World} {Q : Exit → Act → World → Prop} (hgd : o.guard = none) (s x : Operand) (t : TypeId)
    (ho : o.op = .call { callee := .builtin .append, args := #[s, x], argTypes := #[t, t] })
    (e : TypeId) (z : Value) (size bytes : Nat) (ht : P.underlying t = some (.slice e)) (hinfo : (P.info? e).map (fun i => (i.zero, i.size, i.bytes)) = some (some z, size, bytes)) (hzs : z.cells.size = size) (hsz : 0 < size)
    (lo : Nat) (A : Option Addr) (n cap : Nat) (xs : List Int) (hs : a.eval s = .slice A n cap) (hR : Row w lo e size A n cap xs)
    (ad : Addr) (m c : Nat) (news : List Int) (hx : a.eval x = .slice (some ad) m c) (hl : news.length = m * size) (hnews : ∀ j u, (ints news)[j]? = some u → w.cell? (ad.add j) = some u)
    (h63 : n + m ≤ maxLen) (hbytes : (n + m) * bytes ≤ 140737488355328) (hlo : lo ≤ w.heap.size)
    (h : ∀ A' cap' w', Row w' lo e size A' (n + m) cap' (xs ++ news) → Below lo w w' → Wrote w w' A → (∀ a', A' = some a' → (∃ a, A = some a ∧ a.block = a'.block) ∨ a'.block = w.heap.size) → wpList P ops Q rest (a.put o.dst (.slice A' (n + m) cap')) w') :
    wpList P ops Q (o :: rest) a w := by
  obtain ⟨i, hi, hiz, his, hib⟩ : ∃ i, P.info? e = some i ∧ i.zero = some z ∧ i.size = size ∧ i.bytes = bytes := by
    cases hq : P.info? e with
    | none => rw [hq] at hinfo; simp at hinfo
    | some i =>
      rw [hq] at hinfo
      simp only [Option.map_some, Option.some.injEq, Prod.mk.injEq] at hinfo
      exact ⟨i, rfl, hinfo.1, hinfo.2.1, hinfo.2.2⟩
  refine wpList_append_own_at _ hgd s x t ho lo e i z size bytes ht hi hiz his hib hzs hsz _ n (ints xs) hs hR ad m c (ints news) hx (by rw [ints_length]; exact hl) hnews (ints_oneCell' news) h63 hbytes hlo ?_
  intro v' w' hown hg _ hloc
  have hw : Wrote w w' A := by cases A <;> exact hg
  rw [← ints_append] at hown
  have hb : Below lo w w' := (Below.refl lo w).grown hg hlo (fun k hk => by
    cases A with
    | none => simp [Value.ownBlock] at hk
    | some a0 =>
      simp only [Value.ownBlock, Option.some.injEq] at hk
      subst hk
      exact hR.ge a0 rfl)
  rcases hown.2 with ⟨rfl, h0⟩ | ⟨g, c', cur, rfl, _⟩
  · have hn0 : n + m = 0 := h0
    rw [hn0] at h hown
    exact h none 0 w' hown hb hw (by simp)
  · refine h _ _ w' hown hb hw (fun a' ha' => ?_)
    obtain rfl := Option.some.inj ha'
    rcases hloc with h1 | h1
    · cases A with
      | none => simp [Value.ownBlock] at h1
      | some a0 => exact .inl ⟨a0, rfl, by simpa [Value.ownBlock] using h1.symm⟩
    · exact .inr (by simpa [Value.ownBlock] using h1)
theorem cell_two_new (w : World) (x y : Value) (t : TypeId) : ∀ j u, [x, y][j]? = some u → (w.alloc (.cells #[x, y] t)).cell? ((⟨w.heap.size, 0, none⟩ : Addr).add j) = some u := by
  intro j u hj
  match j, hj with
  | 0, hj => simp at hj; subst hj; simp [Addr.add]
  | 1, hj => simp at hj; subst hj; simp [Addr.add]
end Go.Proofs.Ytokklkmibjpjnaa
namespace Go.Proofs.Ytokklkmibjpjnaa
set_option linter.unusedSimpArgs false
set_option linter.unusedVariables false
attribute [local go_sem] n_lt2 n_lt3 n_lt4 n_le2 n_le3
open Go.RowKit

def inB (x lo hi : Int) : Bool := decide (lo ≤ x) && decide (x ≤ hi)
theorem inB_iff (x lo hi : Int) : inB x lo hi = true ↔ lo ≤ x ∧ x ≤ hi := by unfold inB; simp

theorem between_any (x lo hi : Int) (w : World) :
    Calls Try.prog 57 #[.int .i64 x, .int .i64 lo, .int .i64 hi] w fun e w' => e = .returned (.bool (inB x lo hi)) ∧ w = w' := by
  have hx : inB x lo hi = (decide (lo ≤ x) && decide (x ≤ hi)) := rfl
  rw [hx]; clear hx
  by_cases h1 : lo ≤ x
  · have e1 : decide (lo ≤ x) = true := by simpa using h1
    go_enter Try.func57, Try.ntmps57
    go_wp2
    all_goals (go_ret; exact ⟨by simp [*], rfl⟩)
  · have e1 : decide (lo ≤ x) = false := by simpa using h1
    go_enter Try.func57, Try.ntmps57
    go_wp2
    all_goals (go_ret; exact ⟨by simp [*], rfl⟩)
theorem l1In_any (x lo hi : Int) (w : World) :
    Calls Try.prog 27 #[.int .i64 x, .int .i64 lo, .int .i64 hi] w fun e w' => e = .returned (.bool (inB x lo hi)) ∧ w = w' := by
  have hx : inB x lo hi = (decide (lo ≤ x) && decide (x ≤ hi)) := rfl
  rw [hx]; clear hx
  by_cases h1 : lo ≤ x
  · have e1 : decide (lo ≤ x) = true := by simpa using h1
    go_enter Try.func27, Try.ntmps27
    go_wp2
    all_goals (go_ret; exact ⟨by simp [*], rfl⟩)
  · have e1 : decide (lo ≤ x) = false := by simpa using h1
    go_enter Try.func27, Try.ntmps27
    go_wp2
    all_goals (go_ret; exact ⟨by simp [*], rfl⟩)
theorem idOk_any (x : Int) (w : World) :
    Calls Try.prog 88 #[.int .i64 x] w fun e w' => e = .returned (.bool (inB x 1 20)) ∧ w = w' := by
  go_enter Try.func88, Try.ntmps88
  go_wp2_with ((go_at_call 57; refine (between_any _ _ _ _).mono ?_; rintro e w' ⟨rfl, rfl⟩))
  go_ret; exact ⟨rfl, rfl⟩
theorem timeOk_any (x : Int) (w : World) :
    Calls Try.prog 58 #[.int .i64 x] w fun e w' => e = .returned (.bool (inB x 0 1000000)) ∧ w = w' := by
  go_enter Try.func58, Try.ntmps58
  go_wp2_with ((go_at_call 57; refine (between_any _ _ _ _).mono ?_; rintro e w' ⟨rfl, rfl⟩))
  go_ret; exact ⟨rfl, rfl⟩
theorem keyOk_any (x : Int) (w : World) :
    Calls Try.prog 79 #[.int .i64 x] w fun e w' => e = .returned (.bool (inB x 0 9)) ∧ w = w' := by
  go_enter Try.func79, Try.ntmps79
  go_wp2_with ((go_at_call 57; refine (between_any _ _ _ _).mono ?_; rintro e w' ⟨rfl, rfl⟩))
  go_ret; exact ⟨rfl, rfl⟩
theorem valueOk_any (x : Int) (w : World) :
    Calls Try.prog 80 #[.int .i64 x] w fun e w' => e = .returned (.bool (inB x 0 999)) ∧ w = w' := by
  go_enter Try.func80, Try.ntmps80
  go_wp2_with ((go_at_call 57; refine (between_any _ _ _ _).mono ?_; rintro e w' ⟨rfl, rfl⟩))
  go_ret; exact ⟨rfl, rfl⟩
end Go.Proofs.Ytokklkmibjpjnaa
namespace Go.Proofs.Ytokklkmibjpjnaa
set_option linter.unusedSimpArgs false
set_option linter.unusedVariables false
attribute [local go_sem] n_lt2 n_lt3 n_lt4 n_le2 n_le3
open Go.RowKit
attribute [local go_sem] Ext.cell Ext.frozen


theorem info_Int64 : (Try.prog.info? 2).map (fun i => (i.zero, i.size, i.bytes)) = some (some (.int .i64 0), 1, 8) := by kernel_rfl




end Go.Proofs.Ytokklkmibjpjnaa
namespace Go.Proofs.Ytokklkmibjpjnaa
set_option linter.unusedSimpArgs false
set_option linter.unusedVariables false
attribute [local go_sem] n_lt2 n_lt3 n_lt4 n_le2 n_le3
open Go.RowKit

theorem calls_named {P : Program} {f : FuncId} {args : Array Value} {w : World} {Q : Ending → World → Prop} (h : ∀ w', w' = w → Calls P f args w' Q) : Calls P f args w Q := h w rfl
end Go.Proofs.Ytokklkmibjpjnaa
namespace Go.Proofs.Ytokklkmibjpjnaa
set_option linter.unusedSimpArgs false
set_option linter.unusedVariables false
attribute [local go_sem] n_lt2 n_lt3 n_lt4 n_le2 n_le3
open Go.RowKit
attribute [local go_sem] Ext.cell Ext.frozen

theorem row1i {w : World} {g lo : Nat} {E : TypeId} {a : Int} (h : Blk w g E #[.int .i64 a]) (hlo : lo ≤ g) : Row w lo E 1 (some ⟨g, 0, none⟩) 1 1 [a] := by
  refine h.row hlo (by simp [maxLen]) rfl rfl ?_
  intro j hj
  have hj0 : j = 0 := by omega
  subst hj0
  rfl
/-- Block p is a cursor that holds the row zs. -/
def Cur (w : World) (lo p E C : Nat) (n : Nat) (zs : List Int) : Prop :=
  ∃ A cap, Blk w p C #[.slice A n cap, .int .i64 0] ∧ Row w lo E 1 A n cap zs ∧ (∀ a, A = some a → a.block ≠ p) ∧ lo ≤ p
theorem Cur.alloc {w : World} {lo p E C n : Nat} {zs : List Int} (h : Cur w lo p E C n zs) (o : Obj) : Cur (w.alloc o) lo p E C n zs := by
  obtain ⟨A, cap, K, R, hne, hlo⟩ := h
  exact ⟨A, cap, K.alloc o, World.ownsRow.alloc R o, hne, hlo⟩
theorem Cur.lt {w : World} {lo p E C n : Nat} {zs : List Int} (h : Cur w lo p E C n zs) : p < w.heap.size := by
  obtain ⟨A, cap, K, _⟩ := h
  exact K.lt
set_option maxHeartbeats 800000 in
theorem put_any (lo p n m c : Nat) (zs news : List Int) (B : Addr) (w : World) (h : Cur w lo p 2 53 n zs) (hm : news.length = m) (hnews : ∀ j u, (ints news)[j]? = some u → w.cell? (B.add j) = some u) (hn : n + m ≤ 100000) :
    Calls Try.prog 24 #[.pointer (some ⟨p, 0, none⟩), .slice (some B) m c] w fun e w' => e = .returned (.tuple #[]) ∧ Cur w' lo p 2 53 (n + m) (zs ++ news) ∧ Below lo w w' := by
  obtain ⟨A, cap, K, R, hne, hlo⟩ := h
  have HN := Lib.hid hnews
  have HE := Lib.hid hne
  clear hnews hne
  have q0 : w.cell? ⟨p, 0, none⟩ = some (.slice A n cap) := K.cell 0
  have qf := K.frozen 0
  have hlt := K.lt
  go_enter Try.func24, Try.ntmps24
  go_wp2_with (at_builtin; refine wpList_append_row2 rfl _ _ 34 rfl 2 (.int .i64 0) 1 8 Try.underlying34 info_Int64 rfl (by decide) lo A n cap zs rfl R B m c news rfl (by omega) HN.out (by unfold maxLen; omega) (by omega) (by omega) ?_; intro A5 c5 w5 R5 B5 W5 L5; have K5 : Blk w5 p 53 #[.slice A n cap, .int .i64 0] := (World.grownBy.block W5 p hlt (by intro h'; cases A with | none => simp at h' | some a => simp at h'; exact HE.out a rfl h'.symm)).trans K; have r0 : w5.cell? ⟨p, 0, none⟩ = some (.slice A n cap) := K5.cell 0; have rf := K5.frozen 0; have hl5 := K5.lt)

  go_end0
  have hne5 : ∀ a, A5 = some a → a.block ≠ p := fun a ha => by
    rcases L5 a ha with ⟨a0, h1, h2⟩ | h2
    · rw [← h2]; exact HE.out a0 h1
    · omega
  refine ⟨rfl, ⟨A5, c5, K5.set_ 0 _, ?_, hne5, hlo⟩, B5.setCell hlo _⟩
  exact R5.keep (fun a ha => Below.heap_setCell w5 _ _ a.block (hne5 a ha))
end Go.Proofs.Ytokklkmibjpjnaa
namespace Go.Proofs.Ytokklkmibjpjnaa
set_option linter.unusedSimpArgs false
set_option linter.unusedVariables false
attribute [local go_sem] n_lt2 n_lt3 n_lt4 n_le2 n_le3
open Go.ChangeShapes Go.WideShapes Go.ChangeAt Go.RowKit Go.Deep

/-- A number of 64 bits. -/
def I64 (z : Int) : Prop := -9223372036854775808 ≤ z ∧ z ≤ 9223372036854775807
theorem I64_of_wf {z : Int} (h : (Lit.int .i64 z).wf = true) : I64 z := by
  simp [Lit.wf, IntKind.min, IntKind.max, IntKind.signed, IntKind.bits] at h
  exact ⟨by omega, by omega⟩

/-- The fields lie one behind the other, from cell k to cell e. -/
def tiles (P : Program) : List Field → Nat → Nat → Bool
  | [], k, e => k == e
  | f :: fs, k, e => f.offset == k && tiles P fs (k + P.cellsOf f.type) e

/-- All leaves of the type are int64. -/
def flatB (P : Program) : Nat → TypeId → Bool
  | 0, _ => false
  | d + 1, t => match P.underlying t with
    | some (.int .i64) => P.cellsOf t == 1
    | some (.struct fs) => tiles P fs.toList 0 (P.cellsOf t) && fs.toList.all (fun f => flatB P d f.type)
    | _ => false

theorem tiles_le {P : Program} : ∀ (l : List Field) (k e : Nat), tiles P l k e = true → k ≤ e
  | [], k, e, h => by simp [tiles] at h; omega
  | f :: l, k, e, h => by
    simp only [tiles, Bool.and_eq_true] at h
    have := tiles_le l _ _ h.2
    omega

theorem tile_all {P : Program} (cs : List Value) (e : Nat) (hcs : cs.length = e) : ∀ (l : List Field) (k : Nat), tiles P l k e = true →
    (∀ f ∈ l, ∃ zs : List Int, (cs.drop f.offset).take (P.cellsOf f.type) = zs.map (Value.int .i64) ∧ zs.length = P.cellsOf f.type ∧ ∀ z ∈ zs, I64 z) →
    ∃ zs : List Int, cs.drop k = zs.map (Value.int .i64) ∧ zs.length + k = e ∧ ∀ z ∈ zs, I64 z
  | [], k, h, _ => by
    simp [tiles] at h
    exact ⟨[], by simp; omega, by simpa using h, by simp⟩
  | f :: l, k, h, hf => by
    simp only [tiles, Bool.and_eq_true, beq_iff_eq] at h
    obtain ⟨ho, ht⟩ := h
    obtain ⟨zs, hz, hn, hi⟩ := hf f (by simp)
    obtain ⟨zs', hz', hn', hi'⟩ := tile_all cs e hcs l _ ht (fun g hg => hf g (by simp [hg]))
    rw [ho] at hz
    refine ⟨zs ++ zs', ?_, by simp; omega, ?_⟩
    · rw [List.map_append, ← hz, ← hz', ← List.drop_drop, List.take_append_drop]
    · intro z hz
      rcases List.mem_append.1 hz with h | h
      · exact hi z h
      · exact hi' z h

section
variable {H : Type} {enc : TypeId × Value → H} {P : Program} {w : World} {base : Nat} {spare : Nat → Bool} {held : Bool}

theorem flat_trod : ∀ (d : Nat) (t : TypeId) (fuel : Nat) (cs : List Value) (x : DataW H × List MemPlace), flatB P d t = true → DataW.trod enc P w base spare held fuel t cs = some x →
    ∃ zs : List Int, cs = zs.map (Value.int .i64) ∧ zs.length = P.cellsOf t ∧ ∀ z ∈ zs, I64 z := by
  intro d
  induction d with
  | zero => intro t fuel cs x h; simp [flatB] at h
  | succ d ih =>
    intro t fuel cs x h hx
    unfold flatB at h
    split at h
    · rename_i ht
      obtain ⟨n, rfl, _, hw⟩ := DataW.trod_int ht hx
      exact ⟨[n], rfl, by simpa using (beq_iff_eq.1 h).symm, by simpa using I64_of_wf hw⟩
    · rename_i fs ht
      simp only [Bool.and_eq_true, List.all_eq_true] at h
      obtain ⟨xs, n, _, _, hlen, hxl, hf⟩ := DataW.trod_struct ht hx
      obtain ⟨zs, hz, hn, hi⟩ := tile_all cs _ hlen fs.toList 0 h.1 (by
        intro f hfm
        obtain ⟨i, hil, hfi⟩ := List.mem_iff_getElem.1 hfm
        have hil' : i < fs.size := by simpa using hil
        have hfi' : fs[i]? = some f := by
          rw [Array.getElem?_eq_getElem hil']
          simpa using hfi
        have h1 := hf i f hfi'
        rw [List.getElem?_eq_getElem (by omega)] at h1
        exact ih f.type n _ _ (h.2 f hfm) h1)
      exact ⟨zs, by simpa using hz, by simpa using hn, hi⟩
    · simp at h

/-- A struct by value. -/
theorem open_flat {r : Reach} {b0 : Nat} {t : TypeId} {fs : Array Field} {v : Value} {d : DataW H} {p : List MemPlace} (D : Nat) (ht : P.underlying t = some (.struct fs)) (hB : flatB P D t = true)
    (hv : Value.okWide P w r b0 t v) (h : DataW.Trod enc P w base spare held t v d p) :
    ∃ zs : List Int, v = .agg (zs.map (Value.int .i64)).toArray ∧ zs.length = P.cellsOf t ∧ ∀ z ∈ zs, I64 z := by
  obtain ⟨cs, rfl, hsz⟩ := okWide_struct ht hv
  obtain ⟨fuel, hf⟩ := h
  obtain ⟨zs, hz, hn, hi⟩ := flat_trod D t fuel _ _ hB hf
  have hz' : cs.toList = zs.map (Value.int .i64) := by simpa [Value.cells] using hz
  exact ⟨zs, by rw [← hz'], hn, hi⟩

/-- A number. -/
theorem open_i64 {r : Reach} {b0 : Nat} {t : TypeId} {v : Value} {d : DataW H} {p : List MemPlace} (ht : P.underlying t = some (.int .i64)) (hv : Value.okWide P w r b0 t v) (h : DataW.Trod enc P w base spare held t v d p) :
    ∃ z : Int, v = .int .i64 z ∧ I64 z := by
  obtain ⟨n, rfl, _, _, hw⟩ := open_int ht hv h
  exact ⟨n, rfl, I64_of_wf hw⟩

/-- The argument types of a law: each can be read again behind the call. -/
def kinds (P : Program) (ts : List TypeId) : Bool := ts.all fun t => P.readableRec t && decide (t < P.types.size)

theorem trodAll_kept (hl : laidOutB P = true) {W W' : World} (hb : Below W.heap.size W W') : ∀ {ts : List TypeId} {vs : List Value} {ds : List (DataW H)} {ps : List MemPlace}, kinds P ts = true →
    DataW.TrodAll enc P W 0 (fun _ => true) true ts vs ds ps → (∀ x ∈ ps, x.block < W.heap.size) → DataW.TrodAll enc P W' 0 (fun b => decide (b < W.heap.size)) true ts vs ds ps
  | [], [], [], _, _, h, _ => h
  | t :: ts, v :: vs, d :: ds, ps, hk, ⟨p, q, h1, h2, e⟩, hlt => by
    simp only [kinds, List.all_cons, Bool.and_eq_true, decide_eq_true_eq] at hk
    subst e
    exact ⟨p, q, Below.trod hl hk.1.1 hk.1.2 h1 hb (fun x hx => hlt x (by simp [hx])), trodAll_kept hl hb (by simpa [kinds] using hk.2) h2 (fun x hx => hlt x (by simp [hx])), rfl⟩

/-- The closing step of a law's row: the call has returned true and has left old memory as it was. -/
theorem law_post {f : Func} {s : ChangeSpec} {t : TypeId} {W W' : World} {args : Array Value} {ds gs : List (DataW H)} {before : List MemPlace}
    (hl : laidOutB P = true) (hk : kinds P f.params.toList = true) (hr : f.resultTypes.toList = [t]) (ht : P.underlying t = some .bool) (hv : s.vars = [])
    (hW : DataW.Whole enc P f.params.toList s.vars false W args.toList ds gs before) (hfn : s.fn H (ds ++ gs) = { results := [.lit (.bool true)], args := ds }) (hb : Below W.heap.size W W') :
    s.post enc P f false true false false W args (.bool true) W' := by
  have hlt := hW.lt
  have hW0 := hW
  obtain ⟨p, q, hA, hV, hpq, hfz, hnd⟩ := hW
  have hsz : f.resultTypes.size = 1 := by
    have := congrArg List.length hr
    simpa using this
  rw [hv] at hV
  have hgq : gs = [] ∧ q = [] := by
    cases gs with
    | nil => exact ⟨rfl, hV⟩
    | cons _ _ => exact hV.elim
  obtain ⟨rfl, rfl⟩ := hgq
  refine ⟨ds, [], before, [], p, [], hW0, ?_, ?_, ?_, hb.frame _, fun h => by cases h⟩
  · rw [hfn, hr, hsz]
    exact trodAll_mk1 (shut_bool ht true)
  · rw [hfn]
    exact trodAll_kept hl hb hk hA (fun x hx => hlt x (by rw [hpq]; simp [hx]))
  · rw [hv, hfn]
    rfl
end

theorem len1 {α : Type} {l : List α} (h : l.length = 1) : ∃ a, l = [a] := by
  match l, h with
  | [a], _ => exact ⟨a, rfl⟩
theorem len2 {α : Type} {l : List α} (h : l.length = 2) : ∃ a b, l = [a, b] := by
  match l, h with
  | [a, b], _ => exact ⟨a, b, rfl⟩
theorem len3 {α : Type} {l : List α} (h : l.length = 3) : ∃ a b c, l = [a, b, c] := by
  match l, h with
  | [a, b, c], _ => exact ⟨a, b, c, rfl⟩
theorem len4 {α : Type} {l : List α} (h : l.length = 4) : ∃ a b c d, l = [a, b, c, d] := by
  match l, h with
  | [a, b, c, d], _ => exact ⟨a, b, c, d, rfl⟩
theorem len5 {α : Type} {l : List α} (h : l.length = 5) : ∃ a b c d e, l = [a, b, c, d, e] := by
  match l, h with
  | [a, b, c, d, e], _ => exact ⟨a, b, c, d, e, rfl⟩

end Go.Proofs.Ytokklkmibjpjnaa
namespace Go.Proofs.Ytokklkmibjpjnaa
set_option linter.unusedSimpArgs false
set_option linter.unusedVariables false
attribute [local go_sem] n_lt2 n_lt3 n_lt4 n_le2 n_le3
open Go.ChangeShapes Go.WideShapes Go.ChangeAt Go.RowKit Go.Deep

section
variable {α : Type} (c : α → List Int) (s : Nat)
theorem flat_len (l : List α) (h : ∀ a ∈ l, (c a).length = s) : (l.flatMap c).length = l.length * s := by
  induction l with
  | nil => simp
  | cons a l ih =>
    rw [List.flatMap_cons, List.length_append, h a (by simp), ih (fun b hb => h b (by simp [hb])), List.length_cons, Nat.add_mul]
    omega
theorem flat_get : ∀ (l : List α) (_h : ∀ a ∈ l, (c a).length = s) (i j : Nat) (hi : i < l.length) (_hj : j < s), (l.flatMap c)[i * s + j]? = (c l[i])[j]?
  | [], _, i, _, hi, _ => by simp at hi
  | a :: l, h, 0, j, _, hj => by
    have ha : (c a).length = s := h a (by simp)
    rw [List.flatMap_cons, Nat.zero_mul, Nat.zero_add, List.getElem?_append_left (by omega)]
    rfl
  | a :: l, h, i + 1, j, hi, hj => by
    have ha : (c a).length = s := h a (by simp)
    rw [List.flatMap_cons, List.getElem?_append_right (by rw [ha, Nat.add_mul]; omega), ha]
    have e : (i + 1) * s + j - s = i * s + j := by rw [Nat.add_mul]; omega
    rw [e]
    exact flat_get l (fun b hb => h b (by simp [hb])) i j (by simpa using hi) hj
theorem flat_getD (l : List α) (h : ∀ a ∈ l, (c a).length = s) (i j : Nat) (hi : i < l.length) (hj : j < s) : (l.flatMap c).getD (i * s + j) 0 = (c l[i]).getD j 0 := by
  rw [List.getD_eq_getElem?_getD, List.getD_eq_getElem?_getD, flat_get c s l h i j hi hj]
end

theorem choose_zs {n : Nat} {Q : Nat → List Int → Prop} (h : ∀ i, i < n → ∃ zs, Q i zs) : ∃ Z : Nat → List Int, ∀ i, i < n → Q i (Z i) :=
  ⟨fun i => if hi : i < n then Classical.choose (h i hi) else [], fun i hi => by
    simp only [hi, dif_pos]
    exact Classical.choose_spec (h i hi)⟩

section
variable {H : Type} {enc : TypeId × Value → H} {P : Program} {w : World} {base : Nat} {spare : Nat → Bool} {held : Bool}

theorem trod_slice_flat {t e : TypeId} {s : Nat} {fuel : Nat} {cs : List Value} {x : DataW H × List MemPlace} (D : Nat) (ht : P.underlying t = some (.slice e)) (hB : flatB P D e = true) (hs : P.cellsOf e = s) (hs0 : 0 < s)
    (h : DataW.trod enc P w base spare held fuel t cs = some x) : ∃ A n cap zs, cs = [.slice A n cap] ∧ Sl w s A n zs ∧ n ≤ cap ∧ cap ≤ maxLen ∧ ∀ z ∈ zs, I64 z := by
  rcases open_slice ht h with ⟨rfl, _⟩ | ⟨a, len, cap, m, k, Dt, Pl, rfl, _, hl, hm, hmm, _, hi⟩
  · exact ⟨none, 0, 0, [], rfl, Sl.nil _ _ _, Nat.le_refl _, by simp, by simp⟩
  · have hlm : len ≤ m := by rw [hmm]; split <;> omega
    have hel : ∀ i, i < len → ∃ zs : List Int, zs.length = s ∧ (∀ z ∈ zs, I64 z) ∧ ∀ j, j < s → w.cell? (a.add (i * s + j)) = some (.int .i64 (zs.getD j 0)) := by
      intro i hil
      obtain ⟨cs', hc, ht'⟩ := hi i (by omega)
      rw [hs] at hc
      obtain ⟨zs, rfl, hn, h64⟩ := flat_trod D e _ _ _ hB ht'
      rw [hs] at hn
      obtain ⟨_, _, hat⟩ := World.cells?_some hc
      refine ⟨zs, hn, h64, fun j hj => ?_⟩
      have h1 := hat j hj
      rw [add_add] at h1
      rw [h1]
      exact ints_get zs j (by omega)
    obtain ⟨Z, hZ⟩ := choose_zs hel
    have hzl : ∀ i ∈ List.range len, (Z i).length = s := fun i hir => (hZ i (List.mem_range.1 hir)).1
    refine ⟨some a, len, cap, (List.range len).flatMap Z, rfl, ⟨?_, fun hn => ?_⟩, hl, hm, ?_⟩
    · rw [flat_len Z s _ hzl, List.length_range]
    · have hcell : ∀ j, j < len * s → w.cell? (a.add j) = some (.int .i64 (((List.range len).flatMap Z).getD j 0)) := by
        intro j hj
        have hi' : j / s < len := Nat.div_lt_of_lt_mul (by rwa [Nat.mul_comm])
        have hj' : j % s < s := Nat.mod_lt _ hs0
        have e : j / s * s + j % s = j := Nat.div_add_mod' j s
        have h1 := (hZ _ hi').2.2 _ hj'
        have h2 := flat_getD Z s (List.range len) hzl (j / s) (j % s) (by simpa using hi') hj'
        rw [e] at h1 h2
        rw [h1, h2]
        simp
      obtain ⟨b, off, spot⟩ := a
      have h0 := hcell 0 (Nat.mul_pos hn hs0)
      have hspot : spot = none := by simpa [Addr.add] using World.cell?_spot h0
      subst hspot
      refine ⟨b, off, rfl, ?_, fun j hj => by rw [← Go.WideShapes.add_plain]; exact hcell j hj⟩
      rw [Go.WideShapes.add_plain] at h0
      exact World.block_lt_of_cell? w ⟨b, off + 0, none⟩ h0
    · intro z hz
      obtain ⟨i, hir, hzi⟩ := List.mem_flatMap.1 hz
      exact (hZ i (List.mem_range.1 hir)).2.1 z hzi

/-- An argument that is a slice of such structs (or of int64). -/
theorem open_slice_flat {r : Reach} {b0 : Nat} {t e : TypeId} {s : Nat} {v : Value} {d : DataW H} {p : List MemPlace} (D : Nat) (ht : P.underlying t = some (.slice e)) (hB : flatB P D e = true) (hs : P.cellsOf e = s) (hs0 : 0 < s)
    (hv : Value.okWide P w r b0 t v) (h : DataW.Trod enc P w base spare held t v d p) : ∃ A n cap zs, v = .slice A n cap ∧ Sl w s A n zs ∧ n ≤ cap ∧ cap ≤ maxLen ∧ ∀ z ∈ zs, I64 z := by
  obtain ⟨a, len, cap, rfl⟩ := okWide_slice ht hv
  obtain ⟨fuel, hf⟩ := h
  obtain ⟨A, n, c, zs, hc, rest⟩ := trod_slice_flat D ht hB hs hs0 hf
  have e : Value.slice a len cap = .slice A n c := by simpa [Value.cells] using hc
  exact ⟨A, n, c, zs, e, rest⟩
end
end Go.Proofs.Ytokklkmibjpjnaa
namespace Go.Proofs.Ytokklkmibjpjnaa
set_option linter.unusedSimpArgs false
set_option linter.unusedVariables false
attribute [local go_sem] n_lt2 n_lt3 n_lt4 n_le2 n_le3
open Go.RowKit

structure Pr where
  k : Int
  v : Int
instance : Inhabited Pr := ⟨⟨0, 0⟩⟩
/-- A pair list, its numbers one behind the other. -/
def PR (l : List Pr) : List Int := l.flatMap fun p => [p.k, p.v]
theorem PR_len (l : List Pr) : (PR l).length = l.length * 2 := flat_len _ 2 l (fun _ _ => rfl)
theorem PR_get0 (l : List Pr) (i : Nat) (h : i < l.length) : (PR l).getD (i * 2) 0 = (l.getD i default).k := by
  have := flat_getD (fun p : Pr => [p.k, p.v]) 2 l (fun _ _ => rfl) i 0 h (by decide)
  simpa [PR, List.getD, h] using this
theorem PR_get1 (l : List Pr) (i : Nat) (h : i < l.length) : (PR l).getD (i * 2 + 1) 0 = (l.getD i default).v := by
  have := flat_getD (fun p : Pr => [p.k, p.v]) 2 l (fun _ _ => rfl) i 1 h (by decide)
  simpa [PR, List.getD, h] using this
theorem PR_append (a b : List Pr) : PR (a ++ b) = PR a ++ PR b := by simp [PR]
theorem PR_of : ∀ (n : Nat) (zs : List Int), zs.length = n * 2 → ∃ l : List Pr, l.length = n ∧ PR l = zs
  | 0, zs, h => ⟨[], rfl, by simpa [PR] using (List.eq_nil_of_length_eq_zero (by omega)).symm⟩
  | n + 1, [], h => by simp at h
  | n + 1, [_], h => by simp at h; omega
  | n + 1, a :: b :: zs, h => by
    obtain ⟨l, hl, he⟩ := PR_of n zs (by simp at h; omega)
    exact ⟨⟨a, b⟩ :: l, by simp [hl], by rw [← he]; rfl⟩
theorem PR_inj {a b : List Pr} (h : PR a = PR b) : a = b := by
  have hl : a.length = b.length := by
    have := congrArg List.length h
    rw [PR_len, PR_len] at this
    omega
  apply List.ext_getElem hl
  intro i h1 h2
  have e0 := PR_get0 a i h1
  have e1 := PR_get1 a i h1
  rw [h, PR_get0 b i h2] at e0
  rw [h, PR_get1 b i h2] at e1
  simp only [List.getD, List.getElem?_eq_getElem h1, List.getElem?_eq_getElem h2, Option.getD_some] at e0 e1
  cases ha : a[i]; cases hb : b[i]
  rw [ha, hb] at e0 e1
  simp only at e0 e1
  rw [e0, e1]
theorem sl_pairs {w : World} {A : Option Addr} {n : Nat} {l : List Pr} (h : Sl w 2 A n (PR l)) (hn : 0 < n) : ∃ b off, A = some ⟨b, off, none⟩ ∧ b < w.heap.size ∧
    ∀ i, i < n → w.cell? ⟨b, off + i * 2, none⟩ = some (.int .i64 (l.getD i default).k) ∧ w.cell? ⟨b, off + i * 2 + 1, none⟩ = some (.int .i64 (l.getD i default).v) := by
  have hl : l.length = n := by
    have := h.len
    rw [PR_len] at this
    omega
  obtain ⟨b, off, hA, hb, hc⟩ := h.at_ hn
  refine ⟨b, off, hA, hb, fun i hi => ⟨?_, ?_⟩⟩
  · rw [hc (i * 2) (by omega), PR_get0 l i (by omega)]
  · rw [Nat.add_assoc, hc (i * 2 + 1) (by omega), PR_get1 l i (by omega)]

def pairAt (l : List Pr) (i : Nat) : Bool := inB (l.getD i default).k 0 9 && (inB (l.getD i default).v 0 999 && (decide (i = 0) || decide ((l.getD (i-1) default).k < (l.getD i default).k)))
def pairsB (l : List Pr) : Bool := (List.range l.length).all (pairAt l)
theorem pairAt_eq {l : List Pr} {i : Nat} {x y x0 y0 : Int} (h : l.getD i default = ⟨x, y⟩) (h0 : l.getD (i - 1) default = ⟨x0, y0⟩) : pairAt l i = (inB x 0 9 && (inB y 0 999 && (decide (i = 0) || decide (x0 < x)))) := by
  unfold pairAt; rw [h, h0]
/-- A valid list has its keys one above the other: at most ten. -/
theorem pairs_key {l : List Pr} {m : Nat} (h : ∀ j, j < m → pairAt l j = true) : ∀ i, i < m → (i : Int) ≤ (l.getD i default).k ∧ (l.getD i default).k ≤ 9
  | 0, hi => by
    have := h 0 hi
    simp only [pairAt, Bool.and_eq_true, inB_iff] at this
    exact ⟨by simpa using this.1.1, this.1.2⟩
  | i + 1, hi => by
    have h1 := pairs_key h i (by omega)
    have := h (i + 1) hi
    simp only [pairAt, Bool.and_eq_true, Bool.or_eq_true, inB_iff, decide_eq_true_eq, Nat.add_sub_cancel] at this
    have h3 : (l.getD i default).k < (l.getD (i + 1) default).k := by
      rcases this.2.2 with h0 | h0
      · omega
      · exact h0
    exact ⟨by omega, this.1.2⟩
theorem pairsB_all {l : List Pr} (h : pairsB l = true) : ∀ j, j < l.length → pairAt l j = true := fun j hj => List.all_eq_true.1 h j (List.mem_range.2 hj)
theorem pairsB_len {l : List Pr} (h : pairsB l = true) : l.length ≤ 10 := by
  rcases Nat.lt_or_ge 10 l.length with h1 | h1
  · have := pairs_key (pairsB_all h) 10 h1
    omega
  · exact h1

attribute [local go_sem] Ext.cell Ext.frozen

set_option maxHeartbeats 400000 in
theorem pairsOk_any (A : Option Addr) (n cap : Nat) (l : List Pr) (w : World) (hS : Sl w 2 A n (PR l)) (hl : l.length = n) (hn : n ≤ maxLen) :
    Calls Try.prog 59 #[.slice A n cap] w fun e' w' => e' = .returned (.bool (pairsB l)) ∧ Below w.heap.size w w' := by
  have hL := Lib.hid hl
  have HS := Lib.hid hS
  clear hl hS
  unfold maxLen at hn
  go_enter Try.func59, Try.ntmps59
  go_wp2
  go_loopw [7] (fun i wr => ∃ k : Nat, k ≤ n ∧ i = .int .i64 k ∧ Below w.heap.size w wr ∧ Hid (∀ j, j < k → pairAt l j = true)) (fun i _ => n - (intOf i).toNat)
  case atStart => exact ⟨0, Nat.zero_le _, rfl, Below.refl _ _, fun j hj => absurd hj (by omega)⟩
  case round =>
    obtain ⟨k, hk, rfl, hbl, hall⟩ := hrel
    by_cases hlt : k < n
    · obtain ⟨b, off, rfl, hb, hcell⟩ := sl_pairs HS.out (by omega)
      have h0 := (hcell k hlt).1
      have h1 := (hcell k hlt).2
      have h2 := (hcell (k - 1) (by omega)).1
      clear hcell
      rw [← hbl.cell (by exact hb)] at h0 h1 h2
      generalize hp : l.getD k default = p at h0 h1
      generalize hp0 : l.getD (k - 1) default = p0 at h2
      obtain ⟨x, y⟩ := p
      obtain ⟨x0, y0⟩ := p0
      simp only at h0 h1 h2
      have H := Lib.hid (pairAt_eq hp hp0)
      clear hp hp0
      have hbr : b < wr.heap.size := Nat.lt_of_lt_of_le hb hbl.size
      go_wp2
      ((refine wp_region_ext (by kernel_rfl) (by kernel_rfl) ?_); (repeat (any_goals (first | go_big_quiet_step (first | (go_at_call 79; exact quiet_ext_same (keyOk_any _ _)) | (go_at_call 80; exact quiet_ext_same (valueOk_any _ _))) | (refine wpQuiet_step (fun K hK => ?_); go_simp; split <;> (refine hK _ ?_; clear hK K)) | quiet_step (first | (go_at_call 79; exact quiet_ext_same (keyOk_any _ _)) | (go_at_call 80; exact quiet_ext_same (valueOk_any _ _)))))); (all_goals (refine wpQuiet_nil ?_; rintro _ ⟨z, rfl⟩; have hb' := z.h; generalize z.w = w1 at hb' ⊢; clear z; (first | (have hb2 := bstep hb' hb hb.size; clear hb' hcb hfb hz1 hz2 hz3 hz4 hb; have hb := hb2; clear hb2) | (have hb := hb'; clear hb')); obtain ⟨hcb, hfb, hz1, hz2, hz3, hz4⟩ := bcell hb; (try simp only [World.size_alloc, World.size_setCell, World.size_drew, Nat.lt_add_one_iff, Nat.add_assoc, Nat.reduceAdd] at hz1 hz2 hz3 hz4))))
      all_goals go_wp2
      all_goals have hfr : Below w.heap.size w w1 := bstep hb (hbl.alloc hbl.size _) (by have := hbl.size; simp; omega)
      all_goals first
        | exact ⟨⟨k + 1, by omega, by go_num, hfr, upto_succ hall.out (by rw [H.out]; simp [*] <;> omega)⟩, by simp [intOf]; omega⟩
        | (go_ret
           have hf : pairAt l k = false := by rw [H.out]; simp [*] <;> omega
           exact ⟨ret_bool (a := false) (all_range_false (hL.out.symm ▸ hlt) hf).symm, hfr⟩)
    · have hkn : k = n := by omega
      subst hkn
      go_wp2
      go_ret
      exact ⟨ret_bool (a := true) (all_range_true (hL.out.symm ▸ hall.out)).symm, hbl⟩
def rightB (a b : Int) : Bool := inB a 0 9 && inB b 0 999
set_option maxHeartbeats 400000 in
theorem l14Right_any (a b : Int) (w : World) :
    Calls Try.prog 62 #[.agg #[.int .i64 a, .int .i64 b]] w fun e' w' => e' = .returned (.bool (rightB a b)) ∧ Below w.heap.size w w' := by
  go_enter Try.func62, Try.ntmps62
  go_wp2_with ((go_at_call 27; refine (l1In_any _ _ _ _).mono ?_; rintro e w' ⟨rfl, rfl⟩))
  all_goals (go_ret; exact ⟨ret_bool (by unfold rightB; (first | rfl | (simp [*]; done) | (subst_vars; simp [*]; done) | (simp_all; done))), by (repeat' (first | (with_reducible exact Below.refl _ _) | (with_reducible assumption) | (with_reducible refine Below.alloc ?_ ?_ _) | (with_reducible refine Below.drew ?_) | (with_reducible refine Below.setCell ?_ ?_ _) | (with_reducible refine bstep (by assumption) ?_ ?_) | (with_reducible exact Nat.le_refl _) | omega | (simp [*]; done) | (simp [*]; omega)))⟩)
set_option maxHeartbeats 400000 in
theorem specPairsOk_any (A : Option Addr) (n cap : Nat) (l : List Pr) (w : World) (hS : Sl w 2 A n (PR l)) (hl : l.length = n) (hn : n ≤ maxLen) :
    Calls Try.prog 29 #[.slice A n cap] w fun e' w' => e' = .returned (.bool (pairsB l)) ∧ Below w.heap.size w w' := by
  unfold maxLen at hn
  by_cases h10 : 10 < n
  · have hv : pairsB l = false := by
      rw [← Bool.not_eq_true]
      intro h
      have := pairsB_len h
      omega
    have h10' : (10 : Int) < (n : Int) := by omega
    clear hS hl
    go_enter Try.func29, Try.ntmps29
    go_wp2
    go_ret
    exact ⟨ret_bool hv.symm, Below.refl _ _⟩
  have h10' : (n : Int) ≤ 10 := by omega
  have hL := Lib.hid hl
  have HS := Lib.hid hS
  clear hl hS h10
  go_enter Try.func29, Try.ntmps29
  go_wp2
  go_loopw [3] (fun i wr => ∃ k : Nat, k ≤ n ∧ i = .int .i64 k ∧ Below w.heap.size w wr ∧ Hid (∀ j, j < k → pairAt l j = true)) (fun i _ => n - (intOf i).toNat)
  case atStart => exact ⟨0, Nat.zero_le _, rfl, Below.refl _ _, fun j hj => absurd hj (by omega)⟩
  case round =>
    obtain ⟨k, hk, rfl, hbl, hall⟩ := hrel
    by_cases hlt : k < n
    · obtain ⟨b, off, rfl, hb, hcell⟩ := sl_pairs HS.out (by omega)
      have h0 := (hcell k hlt).1
      have h1 := (hcell k hlt).2
      have h2 := (hcell (k - 1) (by omega)).1
      clear hcell
      rw [← hbl.cell (by exact hb)] at h0 h1 h2
      generalize hp : l.getD k default = p at h0 h1
      generalize hp0 : l.getD (k - 1) default = p0 at h2
      obtain ⟨x, y⟩ := p
      obtain ⟨x0, y0⟩ := p0
      simp only at h0 h1 h2
      have H := Lib.hid ((pairAt_eq hp hp0).trans (show _ = (rightB x y && (decide (k = 0) || decide (x0 < x))) by unfold rightB; rw [Bool.and_assoc]))
      clear hp hp0
      have hbr : b < wr.heap.size := Nat.lt_of_lt_of_le hb hbl.size
      go_wp2
      ((refine wp_region_ext (by kernel_rfl) (by kernel_rfl) ?_); (repeat (any_goals (first | go_big_quiet_step ((go_at_call 62; exact quiet_ext (l14Right_any _ _ _))) | (refine wpQuiet_step (fun K hK => ?_); go_simp; split <;> (refine hK _ ?_; clear hK K)) | quiet_step ((go_at_call 62; exact quiet_ext (l14Right_any _ _ _)))))); (all_goals (refine wpQuiet_nil ?_; rintro _ ⟨z, rfl⟩; have hb' := z.h; generalize z.w = w1 at hb' ⊢; clear z; (first | (have hb2 := bstep hb' hb hb.size; clear hb' hcb hfb hz1 hz2 hz3 hz4 hb; have hb := hb2; clear hb2) | (have hb := hb'; clear hb')); obtain ⟨hcb, hfb, hz1, hz2, hz3, hz4⟩ := bcell hb; (try simp only [World.size_alloc, World.size_setCell, World.size_drew, Nat.lt_add_one_iff, Nat.add_assoc, Nat.reduceAdd] at hz1 hz2 hz3 hz4))))
      all_goals go_wp2
      all_goals have hfr : Below w.heap.size w w1 := bstep hb hbl hbl.size
      all_goals first
        | exact ⟨⟨k + 1, by omega, by go_num, hfr, upto_succ hall.out (by rw [H.out]; simp [*] <;> omega)⟩, by simp [intOf]; omega⟩
        | (go_ret
           have hf : pairAt l k = false := by rw [H.out]; simp [*] <;> omega
           exact ⟨ret_bool (a := false) (all_range_false (hL.out.symm ▸ hlt) hf).symm, hfr⟩)
    · have hkn : k = n := by omega
      subst hkn
      go_wp2
      go_ret
      exact ⟨ret_bool (a := true) (all_range_true (hL.out.symm ▸ hall.out)).symm, hbl⟩
end Go.Proofs.Ytokklkmibjpjnaa
namespace Go.Proofs.Ytokklkmibjpjnaa
set_option linter.unusedSimpArgs false
set_option linter.unusedVariables false
attribute [local go_sem] n_lt2 n_lt3 n_lt4 n_le2 n_le3
open Go.RowKit

/-- The place of the first pair with this key, or the list's length. -/
def keyIx (l : List Pr) (key : Int) : Nat := l.findIdx (fun p => decide (p.k = key))
def keyAt (l : List Pr) (key : Int) : Int := if keyIx l key < l.length then (keyIx l key : Int) else -1
def valAt (l : List Pr) (key : Int) : Int × Bool := if keyIx l key < l.length then ((l.getD (keyIx l key) default).v, true) else (0, false)
def valueAtB (l : List Pr) (key : Int) : Int × Bool := if pairsB l = true then valAt l key else (0, false)
theorem keyIx_some {l : List Pr} {key : Int} {k : Nat} (hk : k < l.length) (hj : ∀ j, j < k → (l.getD j default).k ≠ key) (h : (l.getD k default).k = key) : keyIx l key = k := by
  unfold keyIx
  rw [List.findIdx_eq hk]
  refine ⟨?_, fun j hjk => ?_⟩
  · have : l.getD k default = l[k] := by simp [List.getD, hk]
    rw [this] at h
    simpa using h
  · have hj' := hj j hjk
    have : l.getD j default = l[j] := by simp [List.getD, Nat.lt_trans hjk hk]
    rw [this] at hj'
    simpa using hj'
theorem keyIx_none {l : List Pr} {key : Int} (hj : ∀ j, j < l.length → (l.getD j default).k ≠ key) : keyIx l key = l.length := by
  unfold keyIx
  rw [List.findIdx_eq_length]
  intro x hx
  obtain ⟨i, hi, rfl⟩ := List.getElem_of_mem hx
  have hj' := hj i hi
  have : l.getD i default = l[i] := by simp [List.getD, hi]
  rw [this] at hj'
  simpa using hj'
theorem keyAt_some {l : List Pr} {key : Int} {k : Nat} (hk : k < l.length) (hj : ∀ j, j < k → (l.getD j default).k ≠ key) (h : (l.getD k default).k = key) : keyAt l key = k := by
  unfold keyAt
  rw [keyIx_some hk hj h, if_pos hk]
theorem keyAt_none {l : List Pr} {key : Int} (hj : ∀ j, j < l.length → (l.getD j default).k ≠ key) : keyAt l key = -1 := by
  unfold keyAt
  rw [keyIx_none hj, if_neg (Nat.lt_irrefl _)]
theorem valAt_some {l : List Pr} {key : Int} {k : Nat} (hk : k < l.length) (hj : ∀ j, j < k → (l.getD j default).k ≠ key) (h : (l.getD k default).k = key) : valAt l key = ((l.getD k default).v, true) := by
  unfold valAt
  rw [keyIx_some hk hj h, if_pos hk]
theorem valAt_none {l : List Pr} {key : Int} (hj : ∀ j, j < l.length → (l.getD j default).k ≠ key) : valAt l key = (0, false) := by
  unfold valAt
  rw [keyIx_none hj, if_neg (Nat.lt_irrefl _)]
theorem below_upto {l : List Pr} {key : Int} {k : Nat} (h : ∀ j, j < k → (l.getD j default).k ≠ key) (hk : (l.getD k default).k ≠ key) : ∀ j, j < k + 1 → (l.getD j default).k ≠ key := fun j hj => by
  rcases Nat.lt_or_ge j k with h1 | h1
  · exact h j h1
  · obtain rfl : j = k := by omega
    exact hk
attribute [local go_sem] Ext.cell Ext.frozen

end Go.Proofs.Ytokklkmibjpjnaa
namespace Go.Proofs.Ytokklkmibjpjnaa
set_option linter.unusedSimpArgs false
set_option linter.unusedVariables false
attribute [local go_sem] n_lt2 n_lt3 n_lt4 n_le2 n_le3
open Go.RowKit
attribute [local go_sem] Ext.cell Ext.frozen

set_option maxHeartbeats 800000 in
theorem specValueAt_any (A : Option Addr) (n cap : Nat) (l : List Pr) (key : Int) (w : World) (hS : Sl w 2 A n (PR l)) (hl : l.length = n) (hn : n ≤ maxLen) :
    Calls Try.prog 74 #[.slice A n cap, .int .i64 key] w fun e' w' => e' = .returned (.tuple #[.int .i64 (valueAtB l key).1, .bool (valueAtB l key).2]) ∧ Below w.heap.size w w' := by
  have c1 := specPairsOk_any A n cap l w hS hl hn
  by_cases hk : pairsB l = true
  · have hv : valueAtB l key = valAt l key := by unfold valueAtB; rw [if_pos hk]
    rw [hv]
    rw [hk] at c1
    clear hv
    unfold maxLen at hn
    have hL := Lib.hid hl
    have HS := Lib.hid hS
    clear hl hS hk
    go_enter Try.func74, Try.ntmps74
    go_wp2_with fail
    refine c1.mono ?_
    rintro e w1 ⟨rfl, b1⟩
    go_wp2
    go_loopw [6] (fun i wr => ∃ k : Nat, k ≤ n ∧ i = .int .i64 k ∧ Below w.heap.size w wr ∧ Hid (∀ j, j < k → (l.getD j default).k ≠ key)) (fun i _ => n - (intOf i).toNat)
    case atStart => exact ⟨0, Nat.zero_le _, rfl, b1, fun j hj => absurd hj (by omega)⟩
    case round =>
      obtain ⟨k, hk, rfl, hbl, hall⟩ := hrel
      by_cases hlt : k < n
      · obtain ⟨b, off, rfl, hb, hcell⟩ := sl_pairs HS.out (by omega)
        have h0 := (hcell k hlt).1
        have h1 := (hcell k hlt).2
        clear hcell
        rw [← hbl.cell (by exact hb)] at h0 h1
        generalize hpk : l.getD k default = pk at h0 h1
        obtain ⟨x, y⟩ := pk
        simp only at h0 h1
        have H := Lib.hid hpk
        clear hpk
        have hbr : b < wr.heap.size := Nat.lt_of_lt_of_le hb hbl.size
        by_cases hx : x = key
        · subst hx
          go_wp2
          have hva : valAt l x = (y, true) := by rw [valAt_some (hL.out.symm ▸ hlt) hall.out (by rw [H.out]), H.out]
          refine bodyPost_ret (v := .tuple #[.int .i64 y, .bool true]) (by simp [results, Try.results74, go_sem, *]) rfl ⟨by rw [hva], hbl⟩
        · have hx' : (x == key) = false := by simpa using hx
          go_wp2
          exact ⟨⟨k + 1, by omega, by go_num, hbl, below_upto hall.out (by rw [H.out]; exact hx)⟩, by simp [intOf]; omega⟩
      · have hkn : k = n := by omega
        subst hkn
        go_wp2
        have hva : valAt l key = (0, false) := valAt_none (hL.out.symm ▸ hall.out)
        refine bodyPost_ret (v := .tuple #[.int .i64 0, .bool false]) (by simp [results, Try.results74, go_sem, *]) rfl ⟨by rw [hva], hbl⟩
  · have hk' : pairsB l = false := by simpa using hk
    have hv : valueAtB l key = (0, false) := by unfold valueAtB; rw [if_neg hk]
    rw [hv]
    rw [hk'] at c1
    go_enter Try.func74, Try.ntmps74
    go_wp2_with fail
    refine c1.mono ?_
    rintro e w1 ⟨rfl, b1⟩
    go_wp2
    refine bodyPost_ret (v := .tuple #[.int .i64 0, .bool false]) (by simp [results, Try.results74, go_sem, *]) rfl ⟨rfl, b1⟩
end Go.Proofs.Ytokklkmibjpjnaa
namespace Go.Proofs.Ytokklkmibjpjnaa
set_option linter.unusedSimpArgs false
set_option linter.unusedVariables false
attribute [local go_sem] n_lt2 n_lt3 n_lt4 n_le2 n_le3
open Go.RowKit
attribute [local go_sem] Ext.cell Ext.frozen


theorem info_Pair : (Try.prog.info? 82).map (fun i => (i.zero, i.size, i.bytes)) = some (some (.agg #[.int .i64 0, .int .i64 0]), 2, 16) := by kernel_rfl



set_option maxHeartbeats 2000000 in
theorem equalPairS_any (A B : Option Addr) (n m cap cap' : Nat) (zs ys : List Int) (w : World) (hS : Sl w 2 A n zs) (hT : Sl w 2 B m ys) (hn : n ≤ maxLen) (hm : m ≤ maxLen) :
    Calls Try.prog 65 #[.slice A n cap, .slice B m cap'] w fun e w' => e = .returned (.bool (eqL zs ys)) ∧ Below w.heap.size w w' := by
  unfold maxLen at hn hm
  by_cases hnm : n = m
  · subst hnm
    have HS := Lib.hid hS
    have HT := Lib.hid hT
    clear hS hT
    go_enter Try.func65, Try.ntmps65
    go_wp2
    go_loopw [13] (fun i wr => ∃ (k : Nat), k ≤ n ∧ i = .int .i64 k ∧ Below w.heap.size w wr ∧ Hid (∀ j, j < k * 2 → zs.getD j 0 = ys.getD j 0)) (fun i _ => n - (intOf i).toNat)
    case atStart => exact ⟨0, Nat.zero_le _, rfl, Below.refl _ _, fun j hj => absurd hj (by omega)⟩
    case round =>
      obtain ⟨k, hk, rfl, hbl, hall⟩ := hrel
      by_cases hlt : k < n
      · obtain ⟨b, off, rfl, hb, hcell⟩ := HS.out.at_ (by omega)
        obtain ⟨b', off', rfl, hb', hcell'⟩ := HT.out.at_ (by omega)
        have h0 := hcell (k * 2) (by omega)
        have h1 := hcell (k * 2 + 1) (by omega)
        have p0 := hcell' (k * 2) (by omega)
        have p1 := hcell' (k * 2 + 1) (by omega)
        rw [← hbl.cell (by exact hb)] at h0 h1
        rw [← hbl.cell (by exact hb')] at p0 p1
        simp only [← Nat.add_assoc] at h0 h1 p0 p1
        clear hcell hcell'
        generalize hx0 : zs.getD (k * 2) 0 = x0 at h0
        generalize hx1 : zs.getD (k * 2 + 1) 0 = x1 at h1
        generalize hy0 : ys.getD (k * 2) 0 = y0 at p0
        generalize hy1 : ys.getD (k * 2 + 1) 0 = y1 at p1
        have HX := Lib.hid (And.intro (And.intro hx0 hx1) (And.intro hy0 hy1))
        clear hx0 hy0 hx1 hy1
        have hbr : b < wr.heap.size := Nat.lt_of_lt_of_le hb hbl.size
        have hbr' : b' < wr.heap.size := Nat.lt_of_lt_of_le hb' hbl.size
        have hk2 : (k : Int) < (n : Int) := by omega
        have hcs : (¬ x0 = y0) ∨ (x0 = y0 ∧ ¬ x1 = y1) ∨ (x0 = y0 ∧ x1 = y1) := by omega
        rcases hcs with ⟨d0⟩ | ⟨d0, d1⟩ | ⟨d0, d1⟩
        · have hq' : (x0 == y0) = false := by simpa using d0
          go_wp2
          ((refine wp_region_ext (by kernel_rfl) (by kernel_rfl) ?_); (repeat (any_goals (first | go_big_quiet_step (fail) | (refine wpQuiet_step (fun K hK => ?_); go_simp; split <;> (refine hK _ ?_; clear hK K)) | quiet_step (fail)))); (all_goals (refine wpQuiet_nil ?_; rintro _ ⟨z, rfl⟩; have hb' := z.h; generalize z.w = w1 at hb' ⊢; clear z; (first | (have hb2 := bstep hb' hb hb.size; clear hb' hcb hfb hz1 hz2 hz3 hz4 hb; have hb := hb2; clear hb2) | (have hb := hb'; clear hb')); obtain ⟨hcb, hfb, hz1, hz2, hz3, hz4⟩ := bcell hb; (try simp only [World.size_alloc, World.size_setCell, World.size_drew, Nat.lt_add_one_iff, Nat.add_assoc, Nat.reduceAdd] at hz1 hz2 hz3 hz4))))
          go_wp2
          go_ret
          refine ⟨ret_bool (eqL_ne ?_).symm, bstep hb hbl hbl.size⟩
          rintro rfl
          have hxy := HX.out
          exact d0 (hxy.1.1.symm.trans hxy.2.1)
        · have hq' : (x1 == y1) = false := by simpa using d1
          obtain rfl := d0
          go_wp2
          ((refine wp_region_ext (by kernel_rfl) (by kernel_rfl) ?_); (repeat (any_goals (first | go_big_quiet_step (fail) | (refine wpQuiet_step (fun K hK => ?_); go_simp; split <;> (refine hK _ ?_; clear hK K)) | quiet_step (fail)))); (all_goals (refine wpQuiet_nil ?_; rintro _ ⟨z, rfl⟩; have hb' := z.h; generalize z.w = w1 at hb' ⊢; clear z; (first | (have hb2 := bstep hb' hb hb.size; clear hb' hcb hfb hz1 hz2 hz3 hz4 hb; have hb := hb2; clear hb2) | (have hb := hb'; clear hb')); obtain ⟨hcb, hfb, hz1, hz2, hz3, hz4⟩ := bcell hb; (try simp only [World.size_alloc, World.size_setCell, World.size_drew, Nat.lt_add_one_iff, Nat.add_assoc, Nat.reduceAdd] at hz1 hz2 hz3 hz4))))
          go_wp2
          go_ret
          refine ⟨ret_bool (eqL_ne ?_).symm, bstep hb hbl hbl.size⟩
          rintro rfl
          have hxy := HX.out
          exact d1 (hxy.1.2.symm.trans hxy.2.2)
        · obtain rfl := d0
          obtain rfl := d1
          go_wp2
          ((refine wp_region_ext (by kernel_rfl) (by kernel_rfl) ?_); (repeat (any_goals (first | go_big_quiet_step (fail) | (refine wpQuiet_step (fun K hK => ?_); go_simp; split <;> (refine hK _ ?_; clear hK K)) | quiet_step (fail)))); (all_goals (refine wpQuiet_nil ?_; rintro _ ⟨z, rfl⟩; have hb' := z.h; generalize z.w = w1 at hb' ⊢; clear z; (first | (have hb2 := bstep hb' hb hb.size; clear hb' hcb hfb hz1 hz2 hz3 hz4 hb; have hb := hb2; clear hb2) | (have hb := hb'; clear hb')); obtain ⟨hcb, hfb, hz1, hz2, hz3, hz4⟩ := bcell hb; (try simp only [World.size_alloc, World.size_setCell, World.size_drew, Nat.lt_add_one_iff, Nat.add_assoc, Nat.reduceAdd] at hz1 hz2 hz3 hz4))))
          go_wp2
          refine ⟨⟨k + 1, by omega, by go_num, bstep hb hbl hbl.size, ?_⟩, by simp [intOf]; omega⟩
          intro j hj
          have hxy := HX.out
          rcases (by omega : j < k * 2 ∨ j = k * 2 ∨ j = k * 2 + 1) with h | h | h
          · exact hall.out j h
          · rw [h, hxy.1.1, hxy.2.1]
          · rw [h, hxy.1.2, hxy.2.2]
      · have hkn : k = n := by omega
        subst hkn
        go_wp2
        go_ret
        have hzy : zs = ys := list_ext_getD (by rw [HS.out.len, HT.out.len]) (fun j hj => hall.out j (by rw [HS.out.len] at hj; omega))
        exact ⟨ret_bool (by rw [hzy]; exact (eqL_self _).symm), hbl⟩
  · have hne : ¬ (n : Int) = (m : Int) := by omega
    have hz : eqL zs ys = false := by
      refine eqL_ne ?_
      rintro rfl
      have h1 := hS.len
      have h2 := hT.len
      omega
    rw [hz]
    clear hz hS hT
    go_enter Try.func65, Try.ntmps65
    go_wp2
    go_ret
    exact ⟨rfl, Below.refl _ _⟩


end Go.Proofs.Ytokklkmibjpjnaa
namespace Go.Proofs.Ytokklkmibjpjnaa
set_option linter.unusedSimpArgs false
set_option linter.unusedVariables false
attribute [local go_sem] n_lt2 n_lt3 n_lt4 n_le2 n_le3
open Go.RowKit

theorem wpList_append_row {P : Program} {ops : Array Oper} {rest : List Oper} {o : Oper} {a : Act} {w : World} {Q : Exit → Act → World → Prop} (hgd : o.guard = none) (s x : Operand) (t : TypeId)
    (ho : o.op = .call { callee := .builtin .append, args := #[s, x], argTypes := #[t, t] })
    (e : TypeId) (z : Value) (size bytes : Nat) (ht : P.underlying t = some (.slice e)) (hinfo : (P.info? e).map (fun i => (i.zero, i.size, i.bytes)) = some (some z, size, bytes)) (hzs : z.cells.size = size) (hsz : 0 < size)
    (lo : Nat) (A : Option Addr) (n cap : Nat) (xs : List Int) (hs : a.eval s = .slice A n cap) (hR : Row w lo e size A n cap xs)
    (ad : Addr) (m c : Nat) (news : List Int) (hx : a.eval x = .slice (some ad) m c) (hl : news.length = m * size) (hnews : ∀ j u, (ints news)[j]? = some u → w.cell? (ad.add j) = some u)
    (h63 : n + m ≤ maxLen) (hbytes : (n + m) * bytes ≤ 140737488355328) (hlo : lo ≤ w.heap.size)
    (h : ∀ A' cap' w', Row w' lo e size A' (n + m) cap' (xs ++ news) → Below lo w w' → wpList P ops Q rest (a.put o.dst (.slice A' (n + m) cap')) w') :
    wpList P ops Q (o :: rest) a w := by
  obtain ⟨i, hi, hiz, his, hib⟩ : ∃ i, P.info? e = some i ∧ i.zero = some z ∧ i.size = size ∧ i.bytes = bytes := by
    cases hq : P.info? e with
    | none => rw [hq] at hinfo; simp at hinfo
    | some i =>
      rw [hq] at hinfo
      simp only [Option.map_some, Option.some.injEq, Prod.mk.injEq] at hinfo
      exact ⟨i, rfl, hinfo.1, hinfo.2.1, hinfo.2.2⟩
  refine wpList_append_own_at _ hgd s x t ho lo e i z size bytes ht hi hiz his hib hzs hsz _ n (ints xs) hs hR ad m c (ints news) hx (by rw [ints_length]; exact hl) hnews (ints_oneCell' news) h63 hbytes hlo ?_
  intro v' w' hown hg _ _
  rw [← ints_append] at hown
  have hb : Below lo w w' := (Below.refl lo w).grown hg hlo (fun k hk => by
    cases A with
    | none => simp [Value.ownBlock] at hk
    | some a0 =>
      simp only [Value.ownBlock, Option.some.injEq] at hk
      subst hk
      exact hR.ge a0 rfl)
  rcases hown.2 with ⟨rfl, h0⟩ | ⟨g, c', cur, rfl, _⟩
  · have hn0 : n + m = 0 := h0
    rw [hn0] at h hown
    exact h none 0 w' hown hb
  · exact h _ _ w' hown hb
end Go.Proofs.Ytokklkmibjpjnaa
namespace Go.Proofs.Ytokklkmibjpjnaa
set_option linter.unusedSimpArgs false
set_option linter.unusedVariables false
attribute [local go_sem] n_lt2 n_lt3 n_lt4 n_le2 n_le3
open Go.RowKit

def RetRowB (w : World) (E s n : Nat) (zs : List Int) (b : Bool) (e : Ending) (w' : World) : Prop := ∃ A cap, e = .returned (.tuple #[.slice A n cap, .bool b]) ∧ Row w' w.heap.size E s A n cap zs ∧ Below w.heap.size w w'
theorem row0p {w : World} {g lo : Nat} {E : TypeId} {s : Nat} (h : Blk w g E #[]) (hlo : lo ≤ g) : Row w lo E s (some ⟨g, 0, none⟩) 0 0 [] :=
  h.row hlo (by simp [maxLen]) (by simp) (by simp) (fun j hj => absurd hj (by omega))
theorem sl_news {w : World} {A : Option Addr} {n s : Nat} {zs : List Int} {ad : Addr} (h : Sl w s A n zs) (hA : A = some ad) : ∀ j u, (ints zs)[j]? = some u → w.cell? (ad.add j) = some u := fun j u hu => by
  have hj : j < zs.length := by
    rcases Nat.lt_or_ge j zs.length with h1 | h1
    · exact h1
    · rw [List.getElem?_eq_none (by rw [ints_length]; exact h1)] at hu
      cases hu
  have hlen := h.len
  have hn : 0 < n := by
    rcases Nat.eq_zero_or_pos n with h0 | h0
    · subst h0; omega
    · exact h0
  obtain ⟨b, off, hb, _, hc⟩ := h.at_ hn
  rw [hA] at hb
  obtain rfl := Option.some.inj hb
  have hadd : (⟨b, off, none⟩ : Addr).add j = ⟨b, off + j, none⟩ := by unfold Addr.add; split <;> simp_all
  rw [hadd, hc j (by omega), ← hu]
  exact (ints_get zs j hj).symm
def cutL (l : List Pr) (key : Int) : List Pr := l.filter (fun p => !decide (p.k = key))
theorem cutL_take {l : List Pr} {k : Nat} {key : Int} (h : k < l.length) : cutL (l.take (k + 1)) key = cutL (l.take k) key ++ (if (l.getD k default).k = key then [] else [l.getD k default]) := by
  unfold cutL
  rw [List.take_add_one, List.filter_append]
  congr 1
  simp only [List.getElem?_eq_getElem h, Option.toList_some, List.getD, Option.getD_some]
  by_cases hk : l[k].k = key <;> simp [hk]
theorem cutL_le (l : List Pr) (key : Int) : (cutL l key).length ≤ l.length := List.length_filter_le _ _
attribute [local go_sem] Ext.cell Ext.frozen

set_option maxRecDepth 100000 in
set_option maxHeartbeats 2000000 in
theorem specCutOut_any (A : Option Addr) (n cap : Nat) (l : List Pr) (key : Int) (w : World) (hS : Sl w 2 A n (PR l)) (hl : l.length = n) (hn : n ≤ maxLen) :
    Calls Try.prog 46 #[.slice A n cap, .int .i64 key] w (if pairsB l = true then RetRowB w 82 2 (cutL l key).length (PR (cutL l key)) (decide ((cutL l key).length < n)) else RetRowB w 82 2 0 [] false) := by
  have c1 := specPairsOk_any A n cap l w hS hl hn
  by_cases hpa : pairsB l = true
  · have h10 : n ≤ 10 := by have := pairsB_len hpa; omega
    rw [if_pos hpa]
    rw [hpa] at c1
    have hL := Lib.hid hl
    have HS := Lib.hid hS
    clear hpa hl hS
    unfold maxLen at hn
    go_enter Try.func46, Try.ntmps46
    go_wp2_with fail
    refine c1.mono ?_
    rintro e w1 ⟨rfl, b1⟩
    go_wp2
    go_loopw [6, 7] (fun o i wr => ∃ k A0 n0 c0 zs, k ≤ n ∧ n0 ≤ k ∧ i = .int .i64 (k : Nat) ∧ o = .slice A0 n0 c0 ∧ Row wr w.heap.size 82 2 A0 n0 c0 zs ∧ Hid (zs = PR (cutL (l.take k) key)) ∧ Below w.heap.size w wr) (fun _ i _ => n - (intOf i).toNat)
    case atStart => exact ⟨0, _, _, _, _, by omega, Nat.le_refl _, rfl, rfl, row0p (Blk.new w1 _ _) b1.size, Lib.hid rfl, b1.alloc b1.size _⟩
    case round =>
      obtain ⟨k, A0, n0, c0, zs, hk, hn0, rfl, rfl, R, hz, hbl⟩ := hrel
      by_cases hlt : k < n
      · obtain ⟨b, off, rfl, hb, hcell⟩ := sl_pairs HS.out (by omega)
        have h0 := (hcell k hlt).1
        have h1 := (hcell k hlt).2
        clear hcell
        rw [← hbl.cell (by exact hb)] at h0 h1
        generalize hp : l.getD k default = p at h0 h1
        obtain ⟨x, y⟩ := p
        simp only at h0 h1
        have HP := Lib.hid hp
        clear hp
        have hbr : b < wr.heap.size := Nat.lt_of_lt_of_le hb hbl.size
        by_cases hx : x = key
        · subst hx
          have HE := Lib.hid (show PR (cutL (l.take (k + 1)) x) = PR (cutL (l.take k) x) by rw [cutL_take (hL.out.symm ▸ hlt), HP.out, if_pos rfl, List.append_nil])
          go_wp2
          exact ⟨⟨k + 1, A0, n0, c0, zs, by omega, by omega, by go_num, rfl, R, Lib.hid (by rw [HE.out, hz.out]), hbl⟩, by simp [intOf]; omega⟩
        · have hx' : (x == key) = false := by simpa using hx
          have HE := Lib.hid (show PR (cutL (l.take (k + 1)) key) = PR (cutL (l.take k) key) ++ [x, y] by rw [cutL_take (hL.out.symm ▸ hlt), HP.out, if_neg hx, PR_append]; rfl)
          go_wp2_with (at_builtin; refine wpList_append_row rfl _ _ 24 rfl 82 (.agg #[.int .i64 0, .int .i64 0]) 2 16 Try.underlying24 info_Pair (by first | kernel_rfl | simp [Value.cells]) (by decide) w.heap.size A0 n0 c0 zs rfl (World.ownsRow.alloc R _) ⟨wr.heap.size, 0, none⟩ 1 1 [x, y] rfl rfl (cell_two_new _ _ _ _) (by unfold maxLen; omega) (by omega) (by have := hbl.size; simp; omega) ?_; intro A5 c5 w5 R5 B5)
          exact ⟨⟨k + 1, A5, _, c5, _, by omega, by omega, by go_num, rfl, R5, Lib.hid (by rw [HE.out, hz.out]), (hbl.alloc hbl.size _).trans B5⟩, by simp [intOf]; omega⟩
      · have hkn : k = n := by omega
        subst hkn
        have hzz := hz.out
        rw [List.take_of_length_le (by have := hL.out; omega)] at hzz
        have hnn : n0 = (cutL l key).length := by
          have := R.len
          rw [hzz, PR_len] at this
          omega
        have HN := Lib.hid hnn
        clear hnn
        go_wp2
        refine bodyPost_ret (v := .tuple #[.slice A0 n0 c0, .bool (decide ((n0 : Int) < (k : Int)))]) (by simp [results, Try.results46, go_sem, *]) rfl ⟨A0, c0, ?_, ?_, hbl⟩
        · rw [← HN.out]; simp
        · rw [← HN.out, ← hzz]; exact R
  · have hpa' : pairsB l = false := by simpa using hpa
    rw [if_neg hpa]
    rw [hpa'] at c1
    go_enter Try.func46, Try.ntmps46
    go_wp2_with fail
    refine c1.mono ?_
    rintro e w1 ⟨rfl, b1⟩
    go_wp2
    refine bodyPost_ret (v := .tuple #[.slice (some ⟨w1.heap.size, 0, none⟩) 0 0, .bool false]) (by simp [results, Try.results46, go_sem, *]) rfl ⟨_, _, rfl, row0p (Blk.new w1 _ _) b1.size, b1.alloc b1.size _⟩
end Go.Proofs.Ytokklkmibjpjnaa
namespace Go.Proofs.Ytokklkmibjpjnaa
set_option linter.unusedSimpArgs false
set_option linter.unusedVariables false
attribute [local go_sem] n_lt2 n_lt3 n_lt4 n_le2 n_le3
open Go.RowKit

theorem wp_region_tail {P : Program} {id : Nat} {Q : Exit → Act → World → Prop} {a : Act} {w : World} {l : List Oper} (n : Nat) (hm : P.follows .mixedOrders = true) (hB : Region.lexTailB .any l.toArray n = true)
    (h : ∀ w', w' = w.drewN 1 → wpStill P l.toArray w' (fun a' => wpList P l.toArray Q (l.drop n) a' w') (l.take n) a) : (Code.region id l.toArray true).wp P Q a w :=
  wp_region_still_tail n hm hB (h _ rfl)
end Go.Proofs.Ytokklkmibjpjnaa
namespace Go.Proofs.Ytokklkmibjpjnaa
set_option linter.unusedSimpArgs false
set_option linter.unusedVariables false
attribute [local go_sem] n_lt2 n_lt3 n_lt4 n_le2 n_le3
open Go.RowKit

def slen : Value → Nat
  | .slice _ n _ => n
  | _ => 0
/-- vs laid over cs from o on. -/
def over (cs : Array Value) : Nat → List Value → Array Value
  | _, [] => cs
  | o, v :: r => over (cs.setIfInBounds o v) (o + 1) r
theorem over_size : ∀ (vs : List Value) (cs : Array Value) (o : Nat), (over cs o vs).size = cs.size
  | [], _, _ => rfl
  | v :: r, cs, o => by rw [over, over_size r]; simp
theorem over_out : ∀ (vs : List Value) (cs : Array Value) (o j : Nat), (j < o ∨ o + vs.length ≤ j) → (over cs o vs)[j]? = cs[j]?
  | [], _, _, _, _ => rfl
  | v :: r, cs, o, j, h => by
    simp only [List.length_cons] at h
    rw [over, over_out r _ (o + 1) j (by omega), Array.getElem?_setIfInBounds_ne (by omega)]
theorem over_in : ∀ (vs : List Value) (cs : Array Value) (o j : Nat), o + vs.length ≤ cs.size → j < vs.length → (over cs o vs)[o + j]? = vs[j]?
  | v :: r, cs, o, 0, h, _ => by
    simp only [List.length_cons] at h
    rw [over, over_out r _ (o + 1) _ (by omega), Nat.add_zero, Array.getElem?_setIfInBounds_self_of_lt (by omega)]
    rfl
  | v :: r, cs, o, j + 1, h, hj => by
    simp only [List.length_cons] at h hj
    rw [over, show o + (j + 1) = o + 1 + j by omega, over_in r _ (o + 1) j (by simp; omega) (by omega)]
    simp
theorem Blk.over {g : Nat} {e : TypeId} : ∀ (vs : List Value) (cs : Array Value) (o : Nat) (w : World), Blk w g e cs → Blk (w.setCells g o vs) g e (over cs o vs)
  | [], _, _, _, h => h
  | v :: r, cs, o, w, h => Blk.over r _ (o + 1) _ (h.set_ o v)
theorem below_setCells {B g : Nat} {a : World} (hg : B ≤ g) : ∀ (vs : List Value) (o : Nat) (w : World), Below B a w → Below B a (w.setCells g o vs)
  | [], _, _, h => h
  | v :: r, o, w, h => below_setCells hg r (o + 1) _ (h.setCell (p := ⟨g, o, none⟩) hg v)
theorem heap_setCells {g k : Nat} (hk : k ≠ g) : ∀ (vs : List Value) (o : Nat) (w : World), (w.setCells g o vs).heap[k]? = w.heap[k]?
  | [], _, _ => rfl
  | v :: r, o, w => (heap_setCells hk r (o + 1) _).trans (Below.heap_setCell w ⟨g, o, none⟩ v k hk)
theorem size_setCells {g : Nat} : ∀ (vs : List Value) (o : Nat) (w : World), (w.setCells g o vs).heap.size = w.heap.size
  | [], _, _ => rfl
  | v :: r, o, w => (size_setCells r (o + 1) _).trans (by simp [World.setCell])
theorem drew_setCells (b : Nat) : ∀ (vs : List Value) (o : Nat) (w : World), (w.setCells b o vs).drew = w.drew.setCells b o vs
  | [], _, _ => rfl
  | v :: r, o, w => by rw [World.setCells, World.setCells, drew_setCells b r]; rfl

def zeros (n : Nat) : List Value := List.replicate n (.int .i64 0)
theorem zeros_length (n : Nat) : (zeros n).length = n := by simp [zeros]
theorem zeros_ints (n : Nat) : zeros n = ints (List.replicate n 0) := by simp [zeros, ints]
theorem zeroCells_flat {z : Value} {s : Nat} (hz : z.cells = Array.replicate s (.int .i64 0)) (n : Nat) : (Builtin.zeroCells z.cells n).toList = zeros (n * s) := by
  rw [hz]
  unfold Builtin.zeroCells zeros
  apply List.ext_getElem
  · simp
  · intro i h1 h2
    simp only [List.length_replicate] at h2
    have hs : 0 < s := by
      rcases Nat.eq_zero_or_pos s with h | h
      · subst h; simp at h2
      · exact h
    have hm : i % s < s := Nat.mod_lt _ hs
    simp [hm]

theorem getD_drop (l : List Int) (a t : Nat) : (l.drop a).getD t 0 = l.getD (a + t) 0 := by simp [List.getD]
theorem getD_take (l : List Int) (a t : Nat) (h : t < a) : (l.take a).getD t 0 = l.getD t 0 := by simp [List.getD, List.getElem?_take, h]
theorem getD_append_l (a b : List Int) (t : Nat) (h : t < a.length) : (a ++ b).getD t 0 = a.getD t 0 := by simp [List.getD, List.getElem?_append_left h]
theorem getD_append_r (a b : List Int) (t : Nat) (h : a.length ≤ t) : (a ++ b).getD t 0 = b.getD (t - a.length) 0 := by simp [List.getD, List.getElem?_append_right h]
theorem Sl.sub {w : World} {b off n : Nat} {zs : List Int} (h : Sl w 1 (some ⟨b, off, none⟩) n zs) (k m : Nat) (hm : k + m ≤ n) : Sl w 1 (some ⟨b, off + k, none⟩) m ((zs.drop k).take m) := by
  have hl := h.len
  refine ⟨by simp; omega, fun hm0 => ?_⟩
  obtain ⟨b', off', hA, hb, hc⟩ := h.at_ (by omega)
  injection hA with hA
  injection hA with h1 h2
  subst h1 h2
  refine ⟨b, off + k, rfl, hb, fun j hj => ?_⟩
  rw [getD_take _ _ _ (by omega), getD_drop, Nat.add_assoc]
  exact hc (k + j) (by omega)
/-- 'clear' of n > 0 elements of s cells each. -/
theorem run_clear_flat {P : Program} (w : World) (t e ty : TypeId) (z : Value) (s : Nat) (ht : P.underlying t = some (.slice e)) (hv : ∀ w, (zeroValue e).run P w = .ok z w) (hz : z.cells = Array.replicate s (.int .i64 0)) (b o n c : Nat) (hn : 0 < n)
    (hc : ∀ j, j < n * s → (w.cell? ⟨b, o + j, none⟩).isSome = true) (hf : ∀ j, j < n * s → w.frozen? ⟨b, o + j, none⟩ = false) :
    (Builtin.clear_ #[t] ty #[.slice (some ⟨b, o, none⟩) n c]).run P w = .ok (.tuple #[]) (w.setCells b o (zeros (n * s))) := by
  have hzc := zeroCells_flat hz n
  have hst := run_storeCells_cells (P := P) b o (zeros (n * s)) 0 w (by simpa [zeros_length] using hc) (by simpa [zeros_length] using hf) (by intro v hv'; rw [List.eq_of_mem_replicate hv']; rfl)
  simp only [Nat.add_zero] at hst
  obtain ⟨m, rfl⟩ : ∃ m, n = m + 1 := ⟨n - 1, by omega⟩
  simp [Builtin.clear_, run_underlying ht, hv, hzc, hst]
/-- 'copy' of k elements of s cells each. -/
theorem run_copy_flat {P : Program} (w : World) (dT sT ty elem : TypeId) (s k b o dLen dCap : Nat) (a : Addr) (sLen sCap : Nat) (cs : List Value)
    (hu : P.underlying dT = some (.slice elem)) (hs : (P.info? elem).map (·.size) = some s) (hk : k = Nat.min sLen dLen) (hn : cs.length = k * s)
    (hsrc : ∀ j v, cs[j]? = some v → w.cell? (a.add j) = some v) (hc : ∀ j, j < cs.length → (w.cell? ⟨b, o + j, none⟩).isSome = true) (hf : ∀ j, j < cs.length → w.frozen? ⟨b, o + j, none⟩ = false) (h1 : ∀ v ∈ cs, v.oneCell' = true) :
    (Builtin.copy_ #[dT, sT] ty #[.slice (some ⟨b, o, none⟩) dLen dCap, .slice (some a) sLen sCap]).run P w = .ok (goInt k) (w.setCells b o cs) := by
  have hl := run_loadCells_list (P := P) w a cs hsrc
  have hst := run_storeCells_cells (P := P) b o cs 0 w (by simpa using hc) (by simpa using hf) h1
  cases hq : P.info? elem with
  | none => simp [hq] at hs
  | some i =>
    have hi : i.size = s := by simpa [hq] using hs
    simp [Builtin.copy_, run_underlying hu, Builtin.lenOf, Builtin.firstCells, sizeOf, typeInfo, hq, hi, ← hk, ← hn, hl, hst]
theorem wpList_copy_runI {P : Program} (w : World) {ops : Array Oper} {rest : List Oper} {o : Oper} {a : Act} {Q : Exit → Act → World → Prop} (hgd : o.guard = none) (d s : Operand) (t t' : TypeId)
    (ho : o.op = .call { callee := .builtin .copy, args := #[d, s], argTypes := #[t, t'] }) (v u : Value) (hd : a.eval d = v) (hs : a.eval s = u) {v' : Value} {w' : World}
    (hr : (Builtin.copy_ #[t, t'] o.type #[v, u]).run P w = .ok v' w') (h : wpList P ops Q rest (a.put o.dst v') w') : wpList P ops Q (o :: rest) a w := by
  refine wpList_plain hgd fun _ hK => ?_
  unfold Oper.wp execOp
  simp only [ho, resolve, invoke, builtin, Sem.run_bind, Sem.run_pure, Result.andThen_ok, List.map_toArray, List.map_cons, List.map_nil, hd, hs, hr]
  exact hK _ _ h
theorem step_copy_runI {P : Program} {ops : Array Oper} {o : Oper} {a : Act} {w : World} {K : Act → World → Prop} {Q : Exit → Act → World → Prop} {E : Prop}
    (hg : o.guard = none) (d x : Operand) (dT sT : TypeId) (hop : o.op = Op.call { callee := Callee.builtin Builtin.copy, args := #[d, x], argTypes := #[dT, sT] })
    (v u : Value) (hd : a.eval d = v) (hx : a.eval x = u) {v' : Value} {w' : World} (hr : (Builtin.copy_ #[dT, sT] o.type #[v, u]).run P w = .ok v' w') (hK : K (a.put o.dst v') w') :
    if Region.wanted o (yielded ops a.tmps) = true then Oper.wp P o a w K Q else E := by
  have hw : Region.wanted o (yielded ops a.tmps) = true := by simp [Region.wanted, hg]
  rw [if_pos hw]
  unfold Oper.wp
  simp [execOp, hop, resolve, invoke, builtin, hd, hx, hr, Result.andThen]
  exact hK
theorem Blk.shape {w : World} {g : Nat} {e : TypeId} {cs : Array Value} (h : Blk w g e cs) : w.shape? g = some (e, cs.size) := by
  unfold Blk at h
  simp [World.shape?, h]
/-- zs with vs laid in at place o. -/
theorem ins_getD (zs vs : List Int) (o t : Nat) (ho : o ≤ zs.length) : (zs.take o ++ vs ++ zs.drop o).getD t 0 = if t < o then zs.getD t 0 else if t < o + vs.length then vs.getD (t - o) 0 else zs.getD (t - vs.length) 0 := by
  have hl : (zs.take o).length = o := by simp; omega
  split
  · rename_i h
    rw [getD_append_l _ _ _ (by rw [List.length_append]; omega), getD_append_l _ _ _ (by omega), getD_take _ _ _ h]
  · split
    · rename_i h1 h2
      rw [getD_append_l _ _ _ (by rw [List.length_append]; omega), getD_append_r _ _ _ (by omega), hl]
    · rename_i h1 h2
      rw [getD_append_r _ _ _ (by rw [List.length_append]; omega), List.length_append, hl, getD_drop]
      congr 1
      omega
end Go.Proofs.Ytokklkmibjpjnaa
namespace Go.Proofs.Ytokklkmibjpjnaa
set_option linter.unusedSimpArgs false
set_option linter.unusedVariables false
attribute [local go_sem] n_lt2 n_lt3 n_lt4 n_le2 n_le3
open Go.RowKit
attribute [local go_sem] Ext.cell Ext.frozen

/-- Block p is a cursor over the slice A, n, cap, at place at. -/
def RCur (w : World) (p C : Nat) (A : Option Addr) (n cap at_ : Nat) : Prop := Blk w p C #[.slice A n cap, .int .i64 (at_ : Nat)]
theorem RCur.blk {w : World} {p C : Nat} {A : Option Addr} {n cap at_ : Nat} (h : RCur w p C A n cap at_) : Blk w p C #[.slice A n cap, .int .i64 (at_ : Nat)] := h
theorem wrote_drewN {w w' : World} {A : Option Addr} (h : Wrote w w' A) (k : Nat) : Wrote w (w'.drewN k) A := ⟨h.os, h.tape, h.output, h.size, h.block⟩
theorem wrote_refl (w : World) (A : Option Addr) : Wrote w w A := World.grownBy.refl _ _
theorem wrote_below {w w' : World} (h : Below w.heap.size w w') (A : Option Addr) : Wrote w w' A := ⟨h.os, h.tape, h.output, h.size, fun i hi _ => h.block i hi⟩
theorem wrote_then {w a b : World} {p : Nat} (h : Wrote w a (some ⟨p, 0, none⟩)) (hb : Below a.heap.size a b) : Wrote w b (some ⟨p, 0, none⟩) :=
  ⟨hb.os.trans h.os, hb.tape.trans h.tape, hb.output.trans h.output, Nat.le_trans h.size hb.size, fun i hi hn => (hb.block i (Nat.lt_of_lt_of_le hi h.size)).trans (h.block i hi hn)⟩
theorem wrote_trans {w a b : World} {p : Nat} (h : Wrote w a (some ⟨p, 0, none⟩)) (hb : Wrote a b (some ⟨p, 0, none⟩)) : Wrote w b (some ⟨p, 0, none⟩) :=
  ⟨hb.os.trans h.os, hb.tape.trans h.tape, hb.output.trans h.output, Nat.le_trans h.size hb.size, fun i hi hn => (hb.block i (Nat.lt_of_lt_of_le hi h.size) hn).trans (h.block i hi hn)⟩
theorem wrote_setp {w w' : World} {p : Nat} (h : Wrote w w' (some ⟨p, 0, none⟩)) (o : Nat) (u : Value) : Wrote w (w'.setCell ⟨p, o, none⟩ u) (some ⟨p, 0, none⟩) := wrote_set (p := ⟨p, o, none⟩) h rfl u

/-- What a reader of a list leaves: nothing was read; or the list. -/
def TakeNo (p C : Nat) (A : Option Addr) (n cap : Nat) (w : World) (e : Ending) (w' : World) : Prop := ∃ A' n' c' at', e = .returned (.tuple #[.slice A' n' c', .bool false]) ∧ at' ≤ n ∧ RCur w' p C A n cap at' ∧ Wrote w w' (some ⟨p, 0, none⟩)
def TakeYes (p C E s : Nat) (A : Option Addr) (n cap at_ m : Nat) (zs : List Int) (w : World) (e : Ending) (w' : World) : Prop := ∃ A' c', e = .returned (.tuple #[.slice A' m c', .bool true]) ∧ Row w' w.heap.size E s A' m c' zs ∧ RCur w' p C A n cap at_ ∧ Wrote w w' (some ⟨p, 0, none⟩)
theorem RCur.adv {w : World} {p C : Nat} {A : Option Addr} {n cap at_ : Nat} (h : Blk w p C #[.slice A n cap, .int .i64 (at_ : Nat)]) (a b k : Nat) (v : Int) (hv : v = ((at_ + k : Nat) : Int)) :
    RCur (((w.drewN a).setCell ⟨p, 1, none⟩ (.int .i64 v)).drewN b) p C A n cap (at_ + k) := by
  subst hv
  exact Blk.set_ (w := w.drewN a) h 1 _
set_option maxRecDepth 100000 in
set_option maxHeartbeats 800000 in
theorem copyRow_any (A : Option Addr) (n cap : Nat) (zs : List Int) (w : World) (hS : Sl w 1 A n zs) (hn : n ≤ 1048576) (hA : A = none → n = 0 ∧ cap = 0) :
    Calls Try.prog 55 #[.slice A n cap] w (RetRow w 2 1 n zs) := by
  have R0 : Row (w.alloc (.cells #[] 2)) w.heap.size 2 1 (some ⟨w.heap.size, 0, none⟩) 0 0 [] := row0p (Blk.new w _ _) (Nat.le_refl _)
  have hnw := fun ad (h : A = some ad) => sl_news (hS.below ((Below.refl w.heap.size w).alloc (Nat.le_refl _) (.cells #[] 2))) h
  have hPl : zs.length = n * 1 := hS.len
  cases A with
  | none =>
    obtain ⟨rfl, rfl⟩ := hA rfl
    have hz : zs = [] := List.eq_nil_of_length_eq_zero (by omega)
    rw [hz]
    obtain ⟨i0, hi0, hz0, hs0, hy0⟩ := info_parts info_Int64
    clear hnw hS hA hPl
    go_enter Try.func55, Try.ntmps55
    go_wp2_with (at_builtin; refine wpList_append_own_none rfl _ _ 34 rfl w.heap.size 2 i0 1 Try.underlying34 hi0 (.slice (some ⟨w.heap.size, 0, none⟩) 0 0) 0 [] rfl R0 rfl ?_)
    go_ret
    exact RetRow.mk R0 (by (repeat' (first | (with_reducible exact Below.refl _ _) | (with_reducible assumption) | (with_reducible refine Below.alloc ?_ ?_ _) | (with_reducible refine Below.drew ?_) | (with_reducible refine Below.setCell ?_ ?_ _) | (with_reducible refine bstep (by assumption) ?_ ?_) | (with_reducible exact Nat.le_refl _) | omega | (simp [*]; done) | (simp [*]; omega))))
  | some ad =>
    have hnw' := Lib.hid (hnw ad rfl)
    clear hnw hS hA
    go_enter Try.func55, Try.ntmps55
    go_wp2_with (at_builtin; refine wpList_append_row rfl _ _ 34 rfl 2 (.int .i64 0) 1 8 Try.underlying34 info_Int64 (by first | kernel_rfl | simp [Value.cells]) (by decide) w.heap.size (some ⟨w.heap.size, 0, none⟩) 0 0 [] rfl R0 ad n cap zs rfl hPl hnw'.out (by unfold maxLen; omega) (by omega) (by simp) ?_; intro A5 c5 w5 R5 B5)
    go_ret
    simp only [Nat.zero_add, List.nil_append] at R5 ⊢
    exact RetRow.mk R5 (((Below.refl w.heap.size w).alloc (Nat.le_refl _) _).trans B5)
set_option maxRecDepth 100000 in
set_option maxHeartbeats 800000 in
theorem next_yes (p n cap at_ : Nat) (b off : Nat) (x : Int) (w : World) (K : RCur w p 53 (some ⟨b, off, none⟩) n cap at_) (hx : w.cell? ⟨b, off + at_, none⟩ = some (.int .i64 x)) (hat : at_ < n) (hn : n ≤ maxLen) (hbp : b ≠ p) :
    Calls Try.prog 56 #[.pointer (some ⟨p, 0, none⟩)] w fun e w' => e = .returned (.tuple #[.int .i64 x, .bool true]) ∧ RCur w' p 53 (some ⟨b, off, none⟩) n cap (at_ + 1) ∧ Wrote w w' (some ⟨p, 0, none⟩) := by
  have q0 : w.cell? ⟨p, 0, none⟩ = some (.slice (some ⟨b, off, none⟩) n cap) := K.blk.cell 0
  have q1 : w.cell? ⟨p, 1, none⟩ = some (.int .i64 (at_ : Nat)) := K.blk.cell 1
  have qf := K.blk.frozen 1
  have hbp' : p ≠ b := Ne.symm hbp
  have HK := Lib.hid K.blk
  unfold maxLen at hn
  have hat' : (at_ : Int) < (n : Int) := by omega
  have hd : decide ((n : Int) ≤ (at_ : Int)) = false := decide_eq_false (by omega)
  clear K
  go_enter Try.func56, Try.ntmps56
  go_wp2
  go_quiet (fail)
  go_wp2
  go_quiet (fail)
  go_wp2
  refine bodyPost_ret (v := .tuple #[.int .i64 x, .bool true]) (by simp [results, Try.results56, go_sem, *]) rfl ⟨rfl, ?_, ?_⟩
  · exact RCur.adv HK.out _ _ 1 _ (by omega)
  · exact wrote_drewN (wrote_setp (wrote_drewN (wrote_refl _ _) _) _ _) _
set_option maxRecDepth 100000 in
set_option maxHeartbeats 800000 in
theorem next_no (p n cap : Nat) (A : Option Addr) (w : World) (K : RCur w p 53 A n cap n) (hn : n ≤ maxLen) :
    Calls Try.prog 56 #[.pointer (some ⟨p, 0, none⟩)] w fun e w' => e = .returned (.tuple #[.int .i64 0, .bool false]) ∧ RCur w' p 53 A n cap n ∧ Wrote w w' (some ⟨p, 0, none⟩) := by
  have q0 : w.cell? ⟨p, 0, none⟩ = some (.slice A n cap) := K.blk.cell 0
  have q1 : w.cell? ⟨p, 1, none⟩ = some (.int .i64 (n : Nat)) := K.blk.cell 1
  have HK := Lib.hid K.blk
  unfold maxLen at hn
  have hd : decide ((n : Int) ≤ (n : Int)) = true := decide_eq_true (by omega)
  clear K
  go_enter Try.func56, Try.ntmps56
  go_wp2
  go_quiet (fail)
  go_wp2
  refine bodyPost_ret (v := .tuple #[.int .i64 0, .bool false]) (by simp [results, Try.results56, go_sem, *]) rfl ⟨rfl, ?_, ?_⟩
  · exact HK.out
  · exact wrote_drewN (wrote_refl _ _) _
set_option maxRecDepth 100000 in
set_option maxHeartbeats 800000 in
theorem done_any (p n cap at_ : Nat) (A : Option Addr) (w : World) (K : RCur w p 53 A n cap at_) (hn : n ≤ maxLen) (hat : at_ ≤ n) :
    Calls Try.prog 22 #[.pointer (some ⟨p, 0, none⟩)] w fun e w' => e = .returned (.bool (decide (at_ = n))) ∧ RCur w' p 53 A n cap at_ ∧ Below w.heap.size w w' := by
  have q0 : w.cell? ⟨p, 0, none⟩ = some (.slice A n cap) := K.blk.cell 0
  have q1 : w.cell? ⟨p, 1, none⟩ = some (.int .i64 (at_ : Nat)) := K.blk.cell 1
  have HK := Lib.hid K.blk
  unfold maxLen at hn
  clear K
  go_enter Try.func22, Try.ntmps22
  go_wp2
  go_quiet (fail)
  go_wp2
  go_ret
  refine ⟨ret_bool ?_, HK.out, below_drewN (Below.refl _ _) _⟩
  by_cases h : at_ = n
  · subst h; simp
  · rw [decide_eq_false h]
    exact (beq_eq_false_iff_ne.2 (by omega))
set_option maxRecDepth 100000 in
set_option maxHeartbeats 800000 in
theorem take_no (p n cap at_ : Nat) (A : Option Addr) (m : Int) (w : World) (K : RCur w p 53 A n cap at_) (hn : n ≤ maxLen) (hat : at_ ≤ n) (hm : (n : Int) - at_ < m) :
    Calls Try.prog 19 #[.pointer (some ⟨p, 0, none⟩), .int .i64 m] w fun e w' => e = .returned (.tuple #[.slice none 0 0, .bool false]) ∧ RCur w' p 53 A n cap at_ ∧ Wrote w w' (some ⟨p, 0, none⟩) := by
  have q0 : w.cell? ⟨p, 0, none⟩ = some (.slice A n cap) := K.blk.cell 0
  have q1 : w.cell? ⟨p, 1, none⟩ = some (.int .i64 (at_ : Nat)) := K.blk.cell 1
  have HK := Lib.hid K.blk
  unfold maxLen at hn
  have hd0 : decide (m < 0) = false := decide_eq_false (by omega)
  have hd1 : decide ((n : Int) - (at_ : Int) < m) = true := decide_eq_true hm
  clear K
  go_enter Try.func19, Try.ntmps19
  go_wp2
  go_quiet (fail)
  go_wp2
  refine bodyPost_ret (v := .tuple #[.slice none 0 0, .bool false]) (by simp [results, Try.results19, go_sem, *]) rfl ⟨rfl, ?_, ?_⟩
  · exact HK.out
  · exact wrote_drewN (wrote_refl _ _) _
set_option maxRecDepth 100000 in
set_option maxHeartbeats 1600000 in
theorem take_yes (p n cap at_ m : Nat) (b off : Nat) (zs : List Int) (w : World) (K : RCur w p 53 (some ⟨b, off, none⟩) n cap at_) (hS : Sl w 1 (some ⟨b, off, none⟩) n zs) (hn : n ≤ 1048576) (hc : n ≤ cap) (hcm : cap ≤ maxLen) (hm : at_ + m ≤ n) (hat : at_ < n) (hbp : b ≠ p) :
    Calls Try.prog 19 #[.pointer (some ⟨p, 0, none⟩), .int .i64 (m : Nat)] w fun e w' => ∃ A' c', e = .returned (.tuple #[.slice A' m c', .bool true]) ∧ Row w' w.heap.size 2 1 A' m c' ((zs.drop at_).take m) ∧ RCur w' p 53 (some ⟨b, off, none⟩) n cap (at_ + m) ∧ Wrote w w' (some ⟨p, 0, none⟩) := by
  have q0 : w.cell? ⟨p, 0, none⟩ = some (.slice (some ⟨b, off, none⟩) n cap) := K.blk.cell 0
  have q1 : w.cell? ⟨p, 1, none⟩ = some (.int .i64 (at_ : Nat)) := K.blk.cell 1
  have qf := K.blk.frozen 1
  have HK := Lib.hid K.blk
  have HS := Lib.hid hS
  unfold maxLen at hcm
  have hd0 : decide ((m : Int) < 0) = false := decide_eq_false (by omega)
  have hd1 : decide ((n : Int) - (at_ : Int) < (m : Int)) = false := decide_eq_false (by omega)
  clear K hS
  go_enter Try.func19, Try.ntmps19
  go_wp2
  go_quiet (fail)
  go_wp2
  refine wp_region_tail 15 (by kernel_rfl) (by kernel_rfl) ?_
  intro wt hwt
  have K2 : Blk wt p 53 #[.slice (some ⟨b, off, none⟩) n cap, .int .i64 (at_ : Nat)] := by rw [hwt]; exact HK.out
  have S2 : Sl wt 1 (some ⟨b, off, none⟩) n zs := by rw [hwt]; exact HS.out
  have b2 : Below w.heap.size w wt := by rw [hwt]; exact below_drewN (below_drewN (Below.refl _ _) _) _
  clear hwt q0 q1 qf
  have q0 : wt.cell? ⟨p, 0, none⟩ = some (.slice (some ⟨b, off, none⟩) n cap) := K2.cell 0
  have q1 : wt.cell? ⟨p, 1, none⟩ = some (.int .i64 (at_ : Nat)) := K2.cell 1
  have HK2 := Lib.hid K2
  have HS2 := Lib.hid S2
  clear K2 S2
  have hb1 : (at_ : Int) ≤ (at_ : Int) + (m : Int) := by omega
  have hb2 : (at_ : Int) + (m : Int) ≤ (cap : Int) := by omega
  have hb3 : ¬ (cap = at_) := by omega
  have hb4 : (0 : Int) ≤ (at_ : Int) + (m : Int) := by omega
  have hb5 : ((at_ : Int) + (m : Int)).toNat = at_ + m := by omega
  have hw64 : wrap64 ((at_ : Int) + (m : Int)) = (at_ : Int) + (m : Int) := by unfold wrap64; omega
  have hwk : IntKind.i64.wrap ((at_ : Int) + (m : Int)) = (at_ : Int) + (m : Int) := by first | exact hw64 | (simp [IntKind.wrap, IntKind.bits, IntKind.signed]; omega)
  simp only [List.take_succ_cons, List.take_zero, List.drop_succ_cons, List.drop_zero]
  repeat still_step
  refine wpStill_nil ?_
  go_wp2_with fail
  refine (copyRow_any _ m _ ((zs.drop at_).take m) wt (HS2.out.sub at_ m hm) (by omega) (by simp)).mono ?_
  rintro e w3 ⟨A', c', rfl, R', b3⟩
  have K3 := HK2.out.below b3
  have r1 : w3.cell? ⟨p, 1, none⟩ = some (.int .i64 (at_ : Nat)) := K3.cell 1
  have rf := K3.frozen 1
  have hpl := HK2.out.lt
  have HK3 := Lib.hid K3
  clear q0 q1 K3
  go_wp2
  refine bodyPost_ret (v := .tuple #[.slice A' m c', .bool true]) (by simp [results, Try.results19, go_sem, *]) rfl ⟨A', c', rfl, ?_, ?_, ?_⟩
  · refine (R'.mono b2.size).keep (fun a ha => Below.heap_setCell w3 _ _ a.block ?_)
    have := R'.ge a ha
    show a.block ≠ p
    omega
  · exact RCur.adv HK3.out 0 0 m _ (by omega)
  · exact wrote_setp (wrote_below (bthen b2 b3) _) _ _
set_option maxRecDepth 100000 in
set_option maxHeartbeats 1600000 in
theorem take_end (p n cap : Nat) (b off : Nat) (w : World) (K : RCur w p 53 (some ⟨b, off, none⟩) n cap n) (hn : n ≤ 1048576) (hc : n ≤ cap) (hcm : cap ≤ maxLen) :
    Calls Try.prog 19 #[.pointer (some ⟨p, 0, none⟩), .int .i64 0] w fun e w' => ∃ A' c', e = .returned (.tuple #[.slice A' 0 c', .bool true]) ∧ Row w' w.heap.size 2 1 A' 0 c' [] ∧ RCur w' p 53 (some ⟨b, off, none⟩) n cap n ∧ Wrote w w' (some ⟨p, 0, none⟩) := by
  have q0 : w.cell? ⟨p, 0, none⟩ = some (.slice (some ⟨b, off, none⟩) n cap) := K.blk.cell 0
  have q1 : w.cell? ⟨p, 1, none⟩ = some (.int .i64 (n : Nat)) := K.blk.cell 1
  have qf := K.blk.frozen 1
  have HK := Lib.hid K.blk
  unfold maxLen at hcm
  have hd0 : decide ((0 : Int) < 0) = false := decide_eq_false (by omega)
  have hd1 : decide ((n : Int) - (n : Int) < 0) = false := decide_eq_false (by omega)
  clear K
  by_cases hcn : cap = n
  all_goals
    go_enter Try.func19, Try.ntmps19
    go_wp2
    go_quiet (fail)
    go_wp2
    refine wp_region_tail 15 (by kernel_rfl) (by kernel_rfl) ?_
    intro wt hwt
    have K2 : Blk wt p 53 #[.slice (some ⟨b, off, none⟩) n cap, .int .i64 (n : Nat)] := by rw [hwt]; exact HK.out
    have b2 : Below w.heap.size w wt := by rw [hwt]; exact below_drewN (below_drewN (Below.refl _ _) _) _
    clear hwt q0 q1 qf
    have q0 : wt.cell? ⟨p, 0, none⟩ = some (.slice (some ⟨b, off, none⟩) n cap) := K2.cell 0
    have q1 : wt.cell? ⟨p, 1, none⟩ = some (.int .i64 (n : Nat)) := K2.cell 1
    have HK2 := Lib.hid K2
    clear K2
    have hwk : IntKind.i64.wrap ((n : Int) + 0) = (n : Int) := by simp [IntKind.wrap, IntKind.bits, IntKind.signed]; omega
    have hwk2 : IntKind.i64.wrap (n : Int) = (n : Int) := by simp [IntKind.wrap, IntKind.bits, IntKind.signed]; omega
    simp only [List.take_succ_cons, List.take_zero, List.drop_succ_cons, List.drop_zero]
    repeat still_step
    refine wpStill_nil ?_
    go_wp2_with fail
    refine (copyRow_any _ 0 _ [] wt (Sl.nil _ _ _) (by omega) (by simp)).mono ?_
    rintro e w3 ⟨A', c', rfl, R', b3⟩
    have K3 := HK2.out.below b3
    have r1 : w3.cell? ⟨p, 1, none⟩ = some (.int .i64 (n : Nat)) := K3.cell 1
    have rf := K3.frozen 1
    have hpl := HK2.out.lt
    have HK3 := Lib.hid K3
    clear q0 q1 K3
    go_wp2
    refine bodyPost_ret (v := .tuple #[.slice A' 0 c', .bool true]) (by simp [results, Try.results19, go_sem, *]) rfl ⟨A', c', rfl, ?_, ?_, ?_⟩
    · refine (R'.mono b2.size).keep (fun a ha => Below.heap_setCell w3 _ _ a.block ?_)
      have := R'.ge a ha
      show a.block ≠ p
      omega
    · exact RCur.adv HK3.out 0 0 0 _ (by omega)
    · exact wrote_setp (wrote_below (bthen b2 b3) _) _ _
/-- take of m numbers, m a number of the caller's. -/
theorem take_all (p n cap at_ m : Nat) (b off : Nat) (mi : Int) (zs : List Int) (w : World) (K : RCur w p 53 (some ⟨b, off, none⟩) n cap at_) (hS : Sl w 1 (some ⟨b, off, none⟩) n zs) (hn : n ≤ 1048576) (hc : n ≤ cap) (hcm : cap ≤ maxLen) (hm : at_ + m ≤ n) (hbp : b ≠ p) (hmi : mi = ((m : Nat) : Int)) :
    Calls Try.prog 19 #[.pointer (some ⟨p, 0, none⟩), .int .i64 mi] w fun e w' => ∃ A' c', e = .returned (.tuple #[.slice A' m c', .bool true]) ∧ Row w' w.heap.size 2 1 A' m c' ((zs.drop at_).take m) ∧ RCur w' p 53 (some ⟨b, off, none⟩) n cap (at_ + m) ∧ Wrote w w' (some ⟨p, 0, none⟩) := by
  subst hmi
  by_cases hat : at_ < n
  · exact take_yes p n cap at_ m b off zs w K hS hn hc hcm hm hat hbp
  · obtain rfl : at_ = n := by omega
    obtain rfl : m = 0 := by omega
    exact take_end p at_ cap b off w K hn hc hcm
end Go.Proofs.Ytokklkmibjpjnaa
namespace Go.Proofs.Ytokklkmibjpjnaa
set_option linter.unusedSimpArgs false
set_option linter.unusedVariables false
attribute [local go_sem] n_lt2 n_lt3 n_lt4 n_le2 n_le3
open Go.RowKit Go.ChangeShapes Go.WideShapes Go.ChangeAt Go.Deep

/-- The slice value '.slice A n _' reads as the bytes bs. -/
def SlB (w : World) (A : Option Addr) (n : Nat) (bs : List Int) : Prop :=
  bs.length = n ∧ (∀ x ∈ bs, 0 ≤ x ∧ x < 256) ∧ (0 < n → ∃ b off, A = some ⟨b, off, none⟩ ∧ b < w.heap.size ∧ ∀ j, j < n → w.cell? ⟨b, off + j, none⟩ = some (.int .u8 (bs.getD j 0)))
theorem SlB.below {w w' : World} {A : Option Addr} {n : Nat} {bs : List Int} (h : SlB w A n bs) (hb : Below w.heap.size w w') : SlB w' A n bs :=
  ⟨h.1, h.2.1, fun hn => by
    obtain ⟨b, off, rfl, hbl, hj⟩ := h.2.2 hn
    exact ⟨b, off, rfl, Nat.lt_of_lt_of_le hbl hb.size, fun j hjn => (hb.cell hbl).trans (hj j hjn)⟩⟩
theorem SlB.range {w : World} {A : Option Addr} {n : Nat} {bs : List Int} (h : SlB w A n bs) (j : Nat) : 0 ≤ bs.getD j 0 ∧ bs.getD j 0 < 256 := by
  by_cases hj : j < bs.length
  · have := h.2.1 _ (List.getElem_mem hj)
    simpa [List.getD, hj] using this
  · simp [List.getD, List.getElem?_eq_none (by omega : bs.length ≤ j)]
section
variable {H : Type} {enc : TypeId × Value → H} {P : Program} {w : World} {base : Nat} {spare : Nat → Bool} {held : Bool}
/-- An argument of bytes. -/
theorem open_bytes {r : Reach} {b0 : Nat} {t e : TypeId} {v : Value} {d : DataW H} {p : List MemPlace} (ht : P.underlying t = some (.slice e)) (he : P.underlying e = some (.int .u8)) (hs : P.cellsOf e = 1)
    (hv : Value.okWide P w r b0 t v) (h : DataW.Trod enc P w base spare held t v d p) : ∃ A n cap bs, v = .slice A n cap ∧ SlB w A n bs ∧ n ≤ cap ∧ cap ≤ maxLen := by
  obtain ⟨a, len, cap, rfl⟩ := okWide_slice ht hv
  obtain ⟨fuel, hf⟩ := h
  rcases open_ints ht he hs hf with ⟨h1, _⟩ | ⟨a', len', cap', zs, h1, _, hl, hm, hzl, _, hcell, hwf⟩
  · have e : Value.slice a len cap = .slice none 0 0 := by simpa [Value.cells] using h1
    exact ⟨none, 0, 0, [], e, ⟨rfl, by simp, fun h => absurd h (by omega)⟩, Nat.le_refl _, by simp⟩
  · have e : Value.slice a len cap = .slice (some a') len' cap' := by simpa [Value.cells] using h1
    have hle : len' ≤ zs.length := by rw [hzl]; split <;> omega
    obtain ⟨b, off, spot⟩ := a'
    have hbs : (zs.take len').length = len' := by simp; omega
    have hc : ∀ j, j < len' → w.cell? ((⟨b, off, spot⟩ : Addr).add j) = some (.int .u8 ((zs.take len').getD j 0)) := fun j hj => by
      rw [hcell j (by omega)]
      simp [List.getD, List.getElem?_take, hj]
    by_cases hn : len' = 0
    · subst hn
      exact ⟨_, 0, cap', [], e, ⟨rfl, by simp, fun h => absurd h (by omega)⟩, hl, hm⟩
    · have h0 := hc 0 (by omega)
      have hspot : spot = none := by simpa [Addr.add] using World.cell?_spot h0
      subst hspot
      have hblk : b < w.heap.size := by
        rw [Go.WideShapes.add_plain] at h0
        exact World.block_lt_of_cell? w ⟨b, off + 0, none⟩ h0
      refine ⟨some ⟨b, off, none⟩, len', cap', zs.take len', e, ⟨hbs, fun x hx => ?_, fun _ => ⟨b, off, rfl, hblk, fun j hj => by rw [← Go.WideShapes.add_plain]; exact hc j hj⟩⟩, hl, hm⟩
      have := hwf x (List.mem_of_mem_take hx)
      simp [Lit.wf, IntKind.min, IntKind.max, IntKind.signed, IntKind.bits] at this
      omega
end
attribute [local go_sem] Ext.cell Ext.frozen

/-- Block p is a dice over the bytes. -/
def Dice (w : World) (p D : Nat) (A : Option Addr) (n cap : Nat) : Prop := ∃ (i : Nat) (h : Int), i ≤ n ∧ Blk w p D #[.slice A n cap, .int .i64 (i : Nat), .int .u64 h]
theorem u64_lt (x : Int) : IntKind.u64.wrap x < 18446744073709551616 := by rw [IntKind.wrap_u64]; omega
theorem dice_range (h : Int) (h0 : 0 ≤ h) (h1 : h < 18446744073709551616) : 0 ≤ wrap64 (bits BinOp.and IntKind.u64 (h / 8589934592) 16777215) ∧ wrap64 (bits BinOp.and IntKind.u64 (h / 8589934592) 16777215) ≤ 16777215 := by
  rw [u64_and (h / 8589934592) 16777215 (by omega) (by omega) (by omega) (by omega)]
  have hle : ((h / 8589934592).toNat &&& (16777215 : Int).toNat) ≤ 16777215 := Nat.and_le_right
  unfold wrap64
  omega
theorem big_any (A : Option Addr) (n cap : Nat) (w : World) (hn : n ≤ maxLen) :
    Calls Try.prog 4 #[.slice A n cap] w fun e w' => e = .returned (.bool (decide (4096 < n))) ∧ w = w' := by
  unfold maxLen at hn
  go_enter Try.func4, Try.ntmps4
  go_wp2
  go_ret
  exact ⟨ret_bool (by by_cases h : 4096 < n <;> simp [h] <;> omega), rfl⟩
end Go.Proofs.Ytokklkmibjpjnaa
namespace Go.Proofs.Ytokklkmibjpjnaa
set_option linter.unusedSimpArgs false
set_option linter.unusedVariables false
attribute [local go_sem] n_lt2 n_lt3 n_lt4 n_le2 n_le3
open Go.RowKit
theorem Blk.new_at (w : World) (e : TypeId) (cs : Array Value) (g : Nat) (hg : g = w.heap.size) : Blk (w.alloc (.cells cs e)) g e cs := by
  subst hg
  exact Blk.new w e cs
theorem Row.alloc {w : World} {lo : Nat} {e : TypeId} {s : Nat} {A : Option Addr} {n cap : Nat} {zs : List Int} (h : Row w lo e s A n cap zs) (o : Obj) : Row (w.alloc o) lo e s A n cap zs := World.ownsRow.alloc h o
theorem Row.drew {w : World} {lo : Nat} {e : TypeId} {s : Nat} {A : Option Addr} {n cap : Nat} {zs : List Int} (h : Row w lo e s A n cap zs) : Row w.drew lo e s A n cap zs := h
theorem Row.far {w : World} {lo : Nat} {e : TypeId} {s : Nat} {A : Option Addr} {n cap : Nat} {zs : List Int} (h : Row w lo e s A n cap zs) {p : Addr} (hp : ∀ a, A = some a → a.block ≠ p.block) (u : Value) : Row (w.setCell p u) lo e s A n cap zs :=
  h.keep (fun a ha => Below.heap_setCell w p u a.block (hp a ha))
theorem Sl.alloc {w : World} {s : Nat} {A : Option Addr} {n : Nat} {zs : List Int} (h : Sl w s A n zs) (o : Obj) : Sl (w.alloc o) s A n zs := h.below ((Below.refl _ _).alloc (Nat.le_refl _) o)
theorem Sl.far {w : World} {s : Nat} {A : Option Addr} {n : Nat} {zs : List Int} (h : Sl w s A n zs) {p : Addr} (hp : 0 < n → ∀ a, A = some a → a.block ≠ p.block) (u : Value) : Sl (w.setCell p u) s A n zs := by
  refine ⟨h.1, fun hn => ?_⟩
  obtain ⟨b, off, rfl, hb, hj⟩ := h.2 hn
  refine ⟨b, off, rfl, by simpa [World.setCell] using hb, fun j hjn => ?_⟩
  rw [World.cell?_of_block (Below.heap_setCell w p u b (hp hn _ rfl))]
  exact hj j hjn
theorem size_set (w : World) (p : Addr) (u : Value) : (w.setCell p u).heap.size = w.heap.size := by simp [World.setCell]
theorem Blk.wrote2 {w w' : World} {g p : Nat} {e : TypeId} {cs : Array Value} (h : Blk w g e cs) (hw : Wrote w w' (some ⟨p, 0, none⟩)) (hne : g ≠ p) : Blk w' g e cs :=
  (World.grownBy.block hw g h.lt (by simpa using hne)).trans h
end Go.Proofs.Ytokklkmibjpjnaa
namespace Go.Proofs.Ytokklkmibjpjnaa
set_option linter.unusedSimpArgs false
set_option linter.unusedVariables false
attribute [local go_sem] n_lt2 n_lt3 n_lt4 n_le2 n_le3
open Go.RowKit

/-- Only the rows at A and B (and new memory) have been written. -/
structure Wr2 (w w' : World) (A B : Option Addr) : Prop where
  os : w'.os = w.os
  tape : w'.tape = w.tape
  output : w'.output = w.output
  size : w.heap.size ≤ w'.heap.size
  block : ∀ k, k < w.heap.size → (∀ a, A = some a → a.block ≠ k) → (∀ b, B = some b → b.block ≠ k) → w'.heap[k]? = w.heap[k]?
theorem ne_map {A : Option Addr} {k : Nat} (h : ∀ a, A = some a → a.block ≠ k) : some k ≠ A.map (·.block) := by
  cases A with
  | none => simp
  | some a => simp only [Option.map_some, ne_eq, Option.some.injEq]; exact fun e => h a rfl e.symm
theorem Wr2.of {w v v1 w' : World} {A B : Option Addr} (h0 : Below w.heap.size w v) (h1 : Wrote v v1 A) (h2 : Wrote v1 w' B) : Wr2 w w' A B :=
  ⟨h2.os.trans (h1.os.trans h0.os), h2.tape.trans (h1.tape.trans h0.tape), h2.output.trans (h1.output.trans h0.output), Nat.le_trans h0.size (Nat.le_trans h1.size h2.size),
    fun k hk ha hb => ((World.grownBy.block h2 k (Nat.lt_of_lt_of_le (Nat.lt_of_lt_of_le hk h0.size) h1.size) (ne_map hb)).trans (World.grownBy.block h1 k (Nat.lt_of_lt_of_le hk h0.size) (ne_map ha))).trans (h0.block k hk)⟩
theorem Wr2.below {L : Nat} {a w w' : World} {A B : Option Addr} (h : Wr2 w w' A B) (h1 : Below L a w) (hL : L ≤ w.heap.size) (hA : ∀ x, A = some x → L ≤ x.block) (hB : ∀ x, B = some x → L ≤ x.block) : Below L a w' :=
  ⟨h.os.trans h1.os, h.tape.trans h1.tape, h.output.trans h1.output, Nat.le_trans h1.size h.size,
    fun k hk => (h.block k (Nat.lt_of_lt_of_le hk hL) (fun x hx => by have := hA x hx; omega) (fun x hx => by have := hB x hx; omega)).trans (h1.block k hk)⟩
theorem Row.wr2 {w w' : World} {lo : Nat} {e : TypeId} {s : Nat} {O A B : Option Addr} {n cap : Nat} {zs : List Int} (h : Row w lo e s O n cap zs) (hw : Wr2 w w' A B) (h1 : ∀ a b, O = some a → A = some b → a.block ≠ b.block) (h2 : ∀ a b, O = some a → B = some b → a.block ≠ b.block) : Row w' lo e s O n cap zs :=
  h.keep fun a ha => hw.block _ (h.lt a ha) (fun b hb e => h1 a b ha hb e.symm) (fun b hb e => h2 a b ha hb e.symm)
theorem Sl.wr2 {w w' : World} {s : Nat} {O A B : Option Addr} {n : Nat} {zs : List Int} (h : Sl w s O n zs) (hw : Wr2 w w' A B) (h1 : 0 < n → ∀ a b, O = some a → A = some b → a.block ≠ b.block) (h2 : 0 < n → ∀ a b, O = some a → B = some b → a.block ≠ b.block) : Sl w' s O n zs :=
  ⟨h.1, fun hn => by
    obtain ⟨b, off, rfl, hbl, hj⟩ := h.2 hn
    refine ⟨b, off, rfl, Nat.lt_of_lt_of_le hbl hw.size, fun j hjn => ?_⟩
    exact (World.cell?_of_block (a := ⟨b, off + j, none⟩) (hw.block b hbl (fun c hc e => h1 hn _ c rfl hc e.symm) (fun c hc e => h2 hn _ c rfl hc e.symm))).trans (hj j hjn)⟩
theorem Blk.wr2 {w w' : World} {g : Nat} {e : TypeId} {cs : Array Value} {A B : Option Addr} (h : Blk w g e cs) (hw : Wr2 w w' A B) (h1 : ∀ a, A = some a → a.block ≠ g) (h2 : ∀ a, B = some a → a.block ≠ g) : Blk w' g e cs :=
  (hw.block g h.lt h1 h2).trans h
theorem Blk.wroteA {w w' : World} {g : Nat} {e : TypeId} {cs : Array Value} {A : Option Addr} (h : Blk w g e cs) (hw : Wrote w w' A) (h1 : ∀ a, A = some a → a.block ≠ g) : Blk w' g e cs :=
  (World.grownBy.block hw g h.lt (ne_map h1)).trans h
/-- What mark leaves of a struct with two rows. -/
def RetMark2 (w : World) (lo E s : Nat) (A : Option Addr) (n c F t : Nat) (B : Option Addr) (m d : Nat) (k : Int) (e : Ending) (w' : World) : Prop :=
  e = .returned (.int .i64 (k + (n * s : Nat) + (m * t : Nat))) ∧ Row w' lo E s A n c (marks k (n * s)) ∧ Row w' lo F t B m d (marks (k + (n * s : Nat)) (m * t)) ∧ Wr2 w w' A B
end Go.Proofs.Ytokklkmibjpjnaa
namespace Go.Proofs.Ytokklkmibjpjnaa
set_option linter.unusedSimpArgs false
set_option linter.unusedVariables false
attribute [local go_sem] n_lt2 n_lt3 n_lt4 n_le2 n_le3
open Go.RowKit
attribute [local go_sem] Ext.cell Ext.frozen

/-- Block p is a cursor over bytes that lie ahead of it. -/
def LC (w : World) (p C : Nat) : Prop :=
  ∃ (A : Option Addr) (n cap : Nat) (bs : List Int) (i : Nat) (h : Int), i ≤ n ∧ n ≤ maxLen ∧ SlB w A n bs ∧ (0 < n → ∀ a, A = some a → a.block < p) ∧ Blk w p C #[.slice A n cap, .int .i64 (i : Nat), .int .i64 h]
theorem LC.lt {w : World} {p C : Nat} (h : LC w p C) : p < w.heap.size := by
  obtain ⟨A, n, cap, bs, i, x, _, _, _, _, K⟩ := h
  exact K.lt
theorem SlB.keep {w w' : World} {A : Option Addr} {n : Nat} {bs : List Int} (h : SlB w A n bs) (hs : w.heap.size ≤ w'.heap.size) (hk : 0 < n → ∀ a, A = some a → w'.heap[a.block]? = w.heap[a.block]?) : SlB w' A n bs :=
  ⟨h.1, h.2.1, fun hn => by
    obtain ⟨b, off, rfl, hbl, hj⟩ := h.2.2 hn
    exact ⟨b, off, rfl, Nat.lt_of_lt_of_le hbl hs, fun j hjn => (World.cell?_of_block (a := ⟨b, off + j, none⟩) (hk hn ⟨b, off, none⟩ rfl)).trans (hj j hjn)⟩⟩
theorem LC.keep {w w' : World} {p C : Nat} (h : LC w p C) (hs : w.heap.size ≤ w'.heap.size) (hk : ∀ i, i ≤ p → w'.heap[i]? = w.heap[i]?) : LC w' p C := by
  obtain ⟨A, n, cap, bs, i, x, hi, hn, hS, hA, K⟩ := h
  exact ⟨A, n, cap, bs, i, x, hi, hn, hS.keep hs (fun hn a ha => hk _ (Nat.le_of_lt (hA hn a ha))), hA, (hk p (Nat.le_refl _)).trans K⟩
theorem LC.below {w w' : World} {p C : Nat} (h : LC w p C) {lo : Nat} (hb : Below lo w w') (hp : p < lo) : LC w' p C :=
  h.keep hb.size (fun i hi => hb.block i (by omega))
theorem LC.wrote {w w' : World} {p C : Nat} {A : Option Addr} (h : LC w p C) (hw : Wrote w w' A) (hA : ∀ a, A = some a → p < a.block) : LC w' p C :=
  h.keep hw.size (fun i hi => World.grownBy.block hw i (Nat.lt_of_le_of_lt hi h.lt) (by
    cases A with
    | none => simp
    | some a => simp only [Option.map_some, ne_eq, Option.some.injEq]; have := hA a rfl; omega))
/-- A draw has come to a number with Q. -/
def RetI (w : World) (p C : Nat) (Q : Int → Prop) (e : Ending) (w' : World) : Prop := ∃ x, e = .returned (.int .i64 x) ∧ Q x ∧ LC w' p C ∧ Wrote w w' (some ⟨p, 0, none⟩)
def RetB (w : World) (p C : Nat) (e : Ending) (w' : World) : Prop := ∃ x : Bool, e = .returned (.bool x) ∧ LC w' p C ∧ Wrote w w' (some ⟨p, 0, none⟩)
/-- The frame of a draw, over more new memory. -/
theorem wrote_grow {w a b : World} {p lo : Nat} (h : Wrote w a (some ⟨p, 0, none⟩)) (hb : Below lo a b) (hlo : w.heap.size ≤ lo) : Wrote w b (some ⟨p, 0, none⟩) :=
  ⟨hb.os.trans h.os, hb.tape.trans h.tape, hb.output.trans h.output, Nat.le_trans h.size hb.size, fun i hi hn => (hb.block i (Nat.lt_of_lt_of_le hi hlo)).trans (h.block i hi hn)⟩
theorem LC.mk' {w w' : World} {p C : Nat} {A : Option Addr} {n cap : Nat} {bs : List Int} {i : Nat} {h : Int} (hS : SlB w A n bs) (hA : 0 < n → ∀ a, A = some a → a.block < p) (hn : n ≤ maxLen) (hi : i ≤ n) (hw : Wrote w w' (some ⟨p, 0, none⟩)) (K : Blk w' p C #[.slice A n cap, .int .i64 (i : Nat), .int .i64 h]) : LC w' p C :=
  ⟨A, n, cap, bs, i, h, hi, hn, hS.keep hw.size (fun hn' a ha => World.grownBy.block hw _ (by
    obtain ⟨b, off, hA', hb, _⟩ := hS.2.2 hn'
    rw [ha] at hA'
    obtain rfl := Option.some.inj hA'
    exact hb) (by have := hA hn' a ha; simp only [Option.map_some, ne_eq, Option.some.injEq]; omega)), hA, K⟩
theorem Wrote.trans' {w a b : World} {p : Nat} (h : Wrote w a (some ⟨p, 0, none⟩)) (h' : Wrote a b (some ⟨p, 0, none⟩)) : Wrote w b (some ⟨p, 0, none⟩) := wrote_trans h h'
theorem i64_and255 (y : Int) : 0 ≤ bits BinOp.and IntKind.i64 y 255 ∧ bits BinOp.and IntKind.i64 y 255 ≤ 255 := by
  have h : (BitVec.ofInt 64 y &&& BitVec.ofInt 64 255).toNat ≤ 255 := by
    rw [BitVec.toNat_and]
    exact Nat.le_trans Nat.and_le_right (by decide)
  show 0 ≤ IntKind.i64.wrap ((BitVec.ofInt 64 y &&& BitVec.ofInt 64 255).toNat : Int) ∧ IntKind.i64.wrap ((BitVec.ofInt 64 y &&& BitVec.ofInt 64 255).toNat : Int) ≤ 255
  rw [IntKind.wrap_i64]
  omega
/-- A cell of a literal of numbers. -/
theorem lit_cell {w : World} {g E : Nat} (zs : List Int) (K : Blk w g E (zs.map (Value.int .i64)).toArray) (k : Nat) (hk : k < zs.length) : ∃ v, w.cell? ⟨g, k, none⟩ = some (.int .i64 v) := by
  refine ⟨zs[k], ?_⟩
  rw [K.cell]
  simp [hk]
theorem LC.new {w w' : World} {p C : Nat} (h : LC w p C) (hb : Below w.heap.size w w') : LC w' p C := h.below hb h.lt
set_option maxRecDepth 100000 in
set_option maxHeartbeats 1600000 in
theorem l1New_any (A : Option Addr) (n cap : Nat) (bs : List Int) (w : World) (hS : SlB w A n bs) (hn : n ≤ 4096) :
    Calls Try.prog 12 #[.slice A n cap] w fun e w' => e = .returned (.pointer (some ⟨w.heap.size, 0, none⟩)) ∧ LC w' w.heap.size 74 ∧ Below w.heap.size w w' := by
  have HS := Lib.hid hS
  clear hS
  go_enter Try.func12, Try.ntmps12
  go_wp2
  go_loop [3, 4] (fun hv iv => ∃ (k : Nat) (h : Int), k ≤ n ∧ iv = .int .i64 (k : Nat) ∧ hv = .int .i64 h) (fun _ iv => n - (intOf iv).toNat)
  case atStart => exact ⟨0, _, Nat.zero_le _, rfl, rfl⟩
  case round =>
    obtain ⟨k, h, hk, rfl, rfl⟩ := hrel
    by_cases hlt : k < n
    · obtain ⟨b, off, rfl, hb, hcell⟩ := HS.out.2.2 (by omega)
      have hc := hcell k hlt
      generalize bs.getD k 0 = y at hc
      clear hcell
      go_wp2
      exact ⟨⟨k + 1, _, by omega, by go_num, rfl⟩, by simp [intOf]; omega⟩
    · go_wp2
      go_ret
      refine ⟨rfl, ⟨A, n, cap, bs, 0, h, Nat.zero_le _, by unfold maxLen; omega, HS.out.below ((Below.refl w.heap.size w).alloc (Nat.le_refl _) _), fun hn a ha => ?_, Blk.new _ _ _⟩, (Below.refl _ _).alloc (Nat.le_refl _) _⟩
      obtain ⟨b, off, hA, hb, _⟩ := HS.out.2.2 hn
      rw [ha] at hA
      obtain rfl := Option.some.inj hA
      exact hb
set_option maxRecDepth 100000 in
set_option maxHeartbeats 1600000 in
theorem l1Byte_any (p : Nat) (w : World) (hL : LC w p 74) :
    Calls Try.prog 43 #[.pointer (some ⟨p, 0, none⟩)] w (RetI w p 74 (fun x => 0 ≤ x ∧ x ≤ 255)) := by
  obtain ⟨A, n, cap, bs, i, h, hi, hn, hS, hA, K⟩ := hL
  obtain ⟨q0, q1, q2⟩ := bc3 K
  have qf1 := K.frozen 1
  have qf2 := K.frozen 2
  have HK := Lib.hid K
  have HS := Lib.hid hS
  have HA := Lib.hid hA
  have hn0 := Lib.hid hn
  unfold maxLen at hn
  clear K hA
  by_cases hin : i < n
  · obtain ⟨b, off, rfl, hb, hcell⟩ := hS.2.2 (by omega)
    have hc := hcell i hin
    have hr := hS.range i
    have hbp : b ≠ p := Nat.ne_of_lt (HA.out (by omega) _ rfl)
    have hbp' : p ≠ b := Ne.symm hbp
    generalize bs.getD i 0 = y at hc hr
    obtain ⟨hy0, hy1⟩ := hr
    clear hcell hS
    have hi' : (i : Int) < (n : Int) := by omega
    have hdi : decide ((i : Int) < (n : Int)) = true := decide_eq_true hi'
    go_enter Try.func43, Try.ntmps43
    go_wp2
    go_quiet (fail)
    go_wp2
    go_quiet (fail)
    go_wp2
    go_quiet (fail)
    go_wp2
    go_ret
    have hw := fun a u v => wrote_setp (wrote_drewN (wrote_setp (wrote_refl w (some ⟨p, 0, none⟩)) 2 u) a) 1 v
    exact ⟨_, rfl, i64_and255 _, LC.mk' (i := i + 1) HS.out HA.out hn0.out (by omega) (hw _ _ _) (Blk.set_ (Blk.set_ HK.out 2 _) 1 (.int .i64 ((i : Int) + 1))), hw _ _ _⟩
  · have hi' : ¬ (i : Int) < (n : Int) := by omega
    have hdi : decide ((i : Int) < (n : Int)) = false := decide_eq_false hi'
    go_enter Try.func43, Try.ntmps43
    go_wp2
    go_quiet (fail)
    go_wp2
    go_quiet (fail)
    go_wp2
    go_ret
    have hw := fun a b u => wrote_drewN (wrote_drewN (wrote_setp (wrote_refl w (some ⟨p, 0, none⟩)) 2 u) a) b
    exact ⟨_, rfl, i64_and255 _, LC.mk' (i := i) HS.out HA.out hn0.out (by omega) (hw _ _ _) (Blk.set_ HK.out 2 _), hw _ _ _⟩
set_option maxRecDepth 100000 in
set_option maxHeartbeats 1600000 in
theorem l1Below_any (p : Nat) (m : Int) (w : World) (hL : LC w p 74) (hm : 0 < m) (hm' : m ≤ 256) :
    Calls Try.prog 15 #[.pointer (some ⟨p, 0, none⟩), .int .i64 m] w (RetI w p 74 (fun x => 0 ≤ x ∧ x < m)) := by
  have HL := Lib.hid hL
  clear hL
  go_enter Try.func15, Try.ntmps15
  go_wp2_with fail
  refine (l1Byte_any p w HL.out).mono ?_
  rintro e w1 ⟨x, rfl, ⟨hx0, hx1⟩, L1, W1⟩
  go_wp2
  go_ret
  exact ⟨_, rfl, ⟨Int.emod_nonneg _ (by omega), Int.emod_lt_of_pos _ hm⟩, L1, W1⟩
set_option maxRecDepth 100000 in
set_option maxHeartbeats 1600000 in
theorem l1Below_big (p : Nat) (m : Int) (w : World) (hL : LC w p 74) (hm : 256 < m) (hm' : m ≤ 10000000000) :
    Calls Try.prog 15 #[.pointer (some ⟨p, 0, none⟩), .int .i64 m] w (RetI w p 74 (fun x => 0 ≤ x ∧ x < m)) := by
  have HL := Lib.hid hL
  clear hL
  go_enter Try.func15, Try.ntmps15
  go_wp2_with fail
  refine (l1Byte_any p w HL.out).mono ?_
  rintro e w1 ⟨x, rfl, ⟨hx0, hx1⟩, L1, W1⟩
  go_wp2_with fail
  refine (l1Byte_any p w1 L1).mono ?_
  rintro e w2 ⟨y, rfl, ⟨hy0, hy1⟩, L2, W2⟩
  go_wp2_with fail
  refine (l1Byte_any p w2 L2).mono ?_
  rintro e w3 ⟨z, rfl, ⟨hz0, hz1⟩, L3, W3⟩
  go_wp2_with fail
  refine (l1Byte_any p w3 L3).mono ?_
  rintro e w4 ⟨u, rfl, ⟨hu0, hu1⟩, L4, W4⟩
  go_wp2
  go_ret
  exact ⟨_, rfl, ⟨Int.emod_nonneg _ (by omega), Int.emod_lt_of_pos _ (by omega)⟩, L4, wrote_trans (wrote_trans (wrote_trans W1 W2) W3) W4⟩
theorem l1Below_all (p : Nat) (m : Int) (w : World) (hL : LC w p 74) (hm : 0 < m) (hm' : m ≤ 10000000000) :
    Calls Try.prog 15 #[.pointer (some ⟨p, 0, none⟩), .int .i64 m] w (RetI w p 74 (fun x => 0 ≤ x ∧ x < m)) := by
  by_cases h : m ≤ 256
  · exact l1Below_any p m w hL hm h
  · exact l1Below_big p m w hL (by omega) hm'
set_option maxRecDepth 100000 in
theorem l1Once_any (p : Nat) (m : Int) (w : World) (hL : LC w p 74) (hm : 0 < m) (hm' : m ≤ 256) :
    Calls Try.prog 37 #[.pointer (some ⟨p, 0, none⟩), .int .i64 m] w (RetB w p 74) := by
  have HL := Lib.hid hL
  clear hL
  go_enter Try.func37, Try.ntmps37
  go_wp2_with fail
  refine (l1Below_any p m w HL.out hm hm').mono ?_
  rintro e w1 ⟨x, rfl, ⟨hx0, hx1⟩, L1, W1⟩
  go_wp2
  go_ret
  exact ⟨_, rfl, L1, W1⟩
theorem l1Min_any (a b : Int) (w : World) : Calls Try.prog 53 #[.int .i64 a, .int .i64 b] w fun e w' => e = .returned (.int .i64 (if a < b then a else b)) ∧ w = w' := by
  by_cases h : a < b
  · rw [if_pos h]
    go_enter Try.func53, Try.ntmps53
    go_wp2
    go_ret
    exact ⟨rfl, rfl⟩
  · rw [if_neg h]
    go_enter Try.func53, Try.ntmps53
    go_wp2
    go_ret
    exact ⟨rfl, rfl⟩
set_option maxRecDepth 100000 in
set_option maxHeartbeats 1600000 in
theorem l1Odd_any (p : Nat) (w : World) (hL : LC w p 74) :
    Calls Try.prog 84 #[.pointer (some ⟨p, 0, none⟩)] w (RetI w p 74 (fun _ => True)) := by
  have HL := Lib.hid hL
  have hp := hL.lt
  clear hL
  go_enter Try.func84, Try.ntmps84
  go_wp2_with fail
  refine calls_named ?_
  rintro v0 hv0
  have f0 : Below w.heap.size w v0 := by rw [hv0]; (repeat' (first | (with_reducible exact Below.refl _ _) | (with_reducible assumption) | (with_reducible refine Below.alloc ?_ ?_ _) | (with_reducible refine Below.drew ?_) | (with_reducible refine Below.setCell ?_ ?_ _) | (with_reducible refine bstep (by assumption) ?_ ?_) | (with_reducible exact Nat.le_refl _) | omega | (simp [*]; done) | (simp [*]; omega)))
  have K0 := Lib.hid (show Blk v0 w.heap.size 2 #[.int .i64 (-1), .int .i64 0, .int .i64 1, .int .i64 2147483648, .int .i64 (-2147483648), .int .i64 1099511627776, .int .i64 4611686018427387904, .int .i64 (-4611686018427387904), .int .i64 9223372036854775807, .int .i64 (-9223372036854775808)] by rw [hv0]; exact Blk.new _ _ _)
  clear hv0
  refine (l1Below_any p 10 v0 (HL.out.below f0 hp) (by omega) (by omega)).mono ?_
  rintro e w1 ⟨x, rfl, ⟨hx0, hx1⟩, L1, W1⟩
  have K1 := K0.out.wroteA W1 (fun a ha => by obtain rfl := Option.some.inj ha; show p ≠ w.heap.size; omega)
  obtain ⟨k, rfl⟩ : ∃ k : Nat, x = k := ⟨x.toNat, by omega⟩
  obtain ⟨v, hv⟩ := lit_cell [-1, 0, 1, 2147483648, -2147483648, 1099511627776, 4611686018427387904, -4611686018427387904, 9223372036854775807, -9223372036854775808] K1 k (by simp; omega)
  have lt0 := K1.lt
  clear K1 K0
  have hx' : (k : Int) < 10 := by omega
  go_wp2
  go_ret
  exact ⟨v, rfl, trivial, L1, (wrote_below f0 _).trans' W1⟩
set_option maxRecDepth 100000 in
set_option maxHeartbeats 1600000 in
theorem l1Num_any (p : Nat) (m : Int) (w : World) (hL : LC w p 74) (hm : 4 ≤ m) (hm' : m ≤ 1000000000) :
    Calls Try.prog 69 #[.pointer (some ⟨p, 0, none⟩), .int .i64 m] w (RetI w p 74 (fun _ => True)) := by
  have HL := Lib.hid hL
  have hp := hL.lt
  clear hL
  go_enter Try.func69, Try.ntmps69
  go_wp2_with fail
  refine (l1Once_any p 10 w HL.out (by omega) (by omega)).mono ?_
  rintro e w1 ⟨b, rfl, L1, W1⟩
  have hz1 := W1.size
  cases b with
  | true =>
    go_wp2_with fail
    refine (l1Odd_any p w1 L1).mono ?_
    rintro e w2 ⟨y, rfl, _, L2, W2⟩
    have hz2 := W2.size
    go_wp2_with fail
    refine calls_named ?_
    rintro v0 hv0
    have f0 : Below w2.heap.size w2 v0 := by rw [hv0]; (repeat' (first | (with_reducible exact Below.refl _ _) | (with_reducible assumption) | (with_reducible refine Below.alloc ?_ ?_ _) | (with_reducible refine Below.drew ?_) | (with_reducible refine Below.setCell ?_ ?_ _) | (with_reducible refine bstep (by assumption) ?_ ?_) | (with_reducible exact Nat.le_refl _) | omega | (simp [*]; done) | (simp [*]; omega)))
    have K0 := Lib.hid (show Blk v0 w2.heap.size 2 #[.int .i64 (-1), .int .i64 m, .int .i64 (m + 1), .int .i64 y] by rw [hv0]; exact Blk.new _ _ _)
    clear hv0
    refine (l1Below_any p 4 v0 (L2.new f0) (by omega) (by omega)).mono ?_
    rintro e w3 ⟨x, rfl, ⟨hx0, hx1⟩, L3, W3⟩
    have K1 := K0.out.wroteA W3 (fun a ha => by obtain rfl := Option.some.inj ha; have := L2.lt; show p ≠ w2.heap.size; omega)
    obtain ⟨k, rfl⟩ : ∃ k : Nat, x = k := ⟨x.toNat, by omega⟩
    obtain ⟨v, hv⟩ := lit_cell [-1, m, m + 1, y] K1 k (by simp; omega)
    have lt0 := K1.lt
    clear K1 K0
    go_wp2
    go_ret
    exact ⟨v, rfl, trivial, L3, wrote_trans (wrote_trans W1 W2) ((wrote_below f0 _).trans' W3)⟩
  | false =>
    go_wp2_with fail
    refine (l1Once_any p 2 w1 L1 (by omega) (by omega)).mono ?_
    rintro e w2 ⟨b, rfl, L2, W2⟩
    cases b with
    | true =>

      go_wp2_with fail
      refine (l1Min_any m 4 w2).mono ?_
      rintro e w' ⟨rfl, rfl⟩
      rw [if_neg (show ¬ m < 4 by omega)]
      go_wp2_with fail
      refine (l1Below_all p _ w2 L2 (by omega) (by omega)).mono ?_
      rintro e w3 ⟨x, rfl, _, L3, W3⟩
      go_wp2
      go_ret
      exact ⟨_, rfl, trivial, L3, wrote_trans (wrote_trans W1 W2) W3⟩
    | false =>
      go_wp2_with fail
      refine (l1Below_all p _ w2 L2 (by omega) (by omega)).mono ?_
      rintro e w3 ⟨x, rfl, _, L3, W3⟩
      go_wp2
      go_ret
      exact ⟨_, rfl, trivial, L3, wrote_trans (wrote_trans W1 W2) W3⟩
end Go.Proofs.Ytokklkmibjpjnaa
namespace Go.Proofs.Ytokklkmibjpjnaa
set_option linter.unusedSimpArgs false
set_option linter.unusedVariables false
attribute [local go_sem] n_lt2 n_lt3 n_lt4 n_le2 n_le3
open Go.RowKit

theorem pairs_up {l : List Pr} (h : pairsB l = true) : ∀ d i, i + d + 1 < l.length → (l.getD i default).k < (l.getD (i + d + 1) default).k
  | 0, i, hi => by
    have := pairsB_all h (i + 1) (by omega)
    simp only [pairAt, Bool.and_eq_true, Bool.or_eq_true, decide_eq_true_eq, Nat.add_sub_cancel] at this
    rcases this.2.2 with h0 | h0
    · omega
    · exact h0
  | d + 1, i, hi => by
    have h1 := pairs_up h d i (by omega)
    have h2 := pairs_up h 0 (i + d + 1) (by omega)
    exact Int.lt_trans h1 h2
theorem pairs_apart {l : List Pr} (h : pairsB l = true) : l.Pairwise (fun p q => p.k ≠ q.k) := by
  rw [List.pairwise_iff_getElem]
  intro i j hi hj hij
  have := pairs_up h (j - i - 1) i (by omega)
  rw [show i + (j - i - 1) + 1 = j by omega] at this
  simp only [List.getD, List.getElem?_eq_getElem hi, List.getElem?_eq_getElem hj, Option.getD_some] at this
  omega
theorem cutL_all {l : List Pr} {key : Int} (h : ∀ p ∈ l, p.k ≠ key) : cutL l key = l := by
  unfold cutL
  rw [List.filter_eq_self]
  intro p hp
  simpa using h p hp
theorem cutL_erase_of : ∀ {l : List Pr} {key : Int}, l.Pairwise (fun p q => p.k ≠ q.k) → cutL l key = l.eraseIdx (keyIx l key)
  | [], _, _ => rfl
  | p :: l, key, h => by
    rw [List.pairwise_cons] at h
    by_cases hp : p.k = key
    · have h0 : keyIx (p :: l) key = 0 := by simp [keyIx, List.findIdx_cons, hp]
      rw [h0, List.eraseIdx_cons_zero]
      have h1 : cutL (p :: l) key = cutL l key := by simp [cutL, hp]
      rw [h1]
      exact cutL_all (fun q hq => by rw [← hp]; exact (h.1 q hq).symm)
    · have h0 : keyIx (p :: l) key = keyIx l key + 1 := by simp [keyIx, List.findIdx_cons, hp]
      have h1 : cutL (p :: l) key = p :: cutL l key := by simp [cutL, hp]
      rw [h0, h1, List.eraseIdx_cons_succ, cutL_erase_of h.2]
theorem cutL_erase {l : List Pr} (key : Int) (h : pairsB l = true) : cutL l key = l.eraseIdx (keyIx l key) := cutL_erase_of (pairs_apart h)
end Go.Proofs.Ytokklkmibjpjnaa
namespace Go.Proofs.Ytokklkmibjpjnaa
set_option linter.unusedSimpArgs false
set_option linter.unusedVariables false
attribute [local go_sem] n_lt2 n_lt3 n_lt4 n_le2 n_le3
open Go.RowKit

theorem pairs_lt {l : List Pr} (h : pairsB l = true) : l.Pairwise (fun p q => p.k < q.k) := by
  rw [List.pairwise_iff_getElem]
  intro i j hi hj hij
  have := pairs_up h (j - i - 1) i (by omega)
  rw [show i + (j - i - 1) + 1 = j by omega] at this
  simpa only [List.getD, List.getElem?_eq_getElem hi, List.getElem?_eq_getElem hj, Option.getD_some] using this
theorem pairs_rng {l : List Pr} (h : pairsB l = true) : ∀ p ∈ l, 0 ≤ p.k ∧ p.k ≤ 9 := fun p hp => by
  obtain ⟨i, hi, rfl⟩ := List.getElem_of_mem hp
  have := pairs_key (pairsB_all h) i hi
  simp only [List.getD, List.getElem?_eq_getElem hi, Option.getD_some] at this
  omega
def look (l : List Pr) (key : Int) : Option Pr := l.find? (fun p => decide (p.k = key))
theorem look_cons (p : Pr) (l : List Pr) (key : Int) : look (p :: l) key = if p.k = key then some p else look l key := by
  unfold look
  rw [List.find?_cons]
  by_cases h : p.k = key <;> simp [h]
theorem look_key {l : List Pr} {key : Int} {p : Pr} (h : look l key = some p) : p.k = key ∧ p ∈ l := by
  unfold look at h
  exact ⟨by simpa using List.find?_some h, List.mem_of_find?_eq_some h⟩
theorem look_none {l : List Pr} {key : Int} (h : ∀ p ∈ l, p.k ≠ key) : look l key = none := by
  unfold look
  rw [List.find?_eq_none]
  intro p hp
  simpa using h p hp
theorem valAt_look (l : List Pr) (key : Int) : valAt l key = match look l key with | some p => (p.v, true) | none => (0, false) := by
  induction l with
  | nil => rfl
  | cons p l ih =>
    rw [look_cons]
    by_cases h : p.k = key
    · have : keyIx (p :: l) key = 0 := by simp [keyIx, List.findIdx_cons, h]
      simp [valAt, this, h]
    · have h1 : keyIx (p :: l) key = keyIx l key + 1 := by simp [keyIx, List.findIdx_cons, h]
      rw [if_neg h, ← ih]
      simp [valAt, h1]
theorem canon : ∀ (m : Nat) (a : Int) (l : List Pr), l.Pairwise (fun p q => p.k < q.k) → (∀ p ∈ l, a ≤ p.k ∧ p.k < a + m) → (List.range m).filterMap (fun j : Nat => look l (a + j)) = l
  | 0, a, l, _, h => by
    match l with
    | [] => rfl
    | p :: l => have := h p (by simp); omega
  | m + 1, a, l, hs, h => by
    have hstep : ∀ t : List Pr, (List.range m).filterMap (fun j : Nat => look t (a + (j + 1 : Nat))) = (List.range m).filterMap (fun j : Nat => look t (a + 1 + j)) := fun t => by
      congr 1
      funext j
      congr 1
      omega
    rw [List.range_succ_eq_map, List.filterMap_cons, List.filterMap_map]
    rw [show ((fun j : Nat => look l (a + j)) ∘ Nat.succ) = (fun j : Nat => look l (a + (j + 1 : Nat))) from rfl]
    match l with
    | [] =>
      rw [look_none (by simp), hstep]
      exact canon m (a + 1) [] List.Pairwise.nil (by simp)
    | p :: t =>
      rw [List.pairwise_cons] at hs
      by_cases hp : p.k = a
      · rw [look_cons, if_pos (by omega)]
        simp only
        congr 1
        have e : ∀ j : Nat, look (p :: t) (a + (j + 1 : Nat)) = look t (a + 1 + j) := fun j => by
          rw [look_cons, if_neg (by omega)]
          congr 1
          omega
        simp only [e]
        exact canon m (a + 1) t hs.2 (fun q hq => by
          have h1 := hs.1 q hq
          have h2 := h q (by simp [hq])
          omega)
      · have h0 := h p (by simp)
        rw [look_none (fun q hq => by
          rcases List.mem_cons.1 hq with rfl | hq
          · omega
          · have := hs.1 q hq
            omega), hstep]
        exact canon m (a + 1) (p :: t) (List.pairwise_cons.2 hs) (fun q hq => by
          have h2 := h q hq
          rcases List.mem_cons.1 hq with rfl | hq
          · omega
          · have := hs.1 q hq
            omega)

/-- The pair put at its place. -/
def putL : List Pr → Int → Int → List Pr
  | [], key, v => [⟨key, v⟩]
  | p :: t, key, v => if p.k < key then p :: putL t key v else if p.k = key then ⟨key, v⟩ :: t else ⟨key, v⟩ :: p :: t
theorem putL_look (l : List Pr) (key v k : Int) : look (putL l key v) k = if k = key then some ⟨key, v⟩ else look l k := by
  induction l with
  | nil =>
    rw [putL, look_cons]
    by_cases h : k = key
    · simp [h]
    · rw [if_neg (by simpa using Ne.symm h), if_neg h]
  | cons p t ih =>
    rw [putL]
    split
    · rename_i h1
      rw [look_cons, ih, look_cons]
      by_cases h : k = key
      · subst h
        rw [if_neg (by omega), if_pos rfl, if_pos rfl]
      · rw [if_neg h, if_neg h]
    · split
      · rename_i h1 h2
        rw [look_cons, look_cons]
        by_cases h : k = key
        · subst h; simp
        · rw [if_neg (by simpa using Ne.symm h), if_neg h, if_neg (by omega)]
      · rw [look_cons, look_cons]
        by_cases h : k = key
        · subst h; simp
        · rw [if_neg (by simpa using Ne.symm h), if_neg h]
theorem putL_mem {l : List Pr} {key v : Int} {q : Pr} (h : q ∈ putL l key v) : q = ⟨key, v⟩ ∨ q ∈ l := by
  induction l with
  | nil => rw [putL] at h; simpa using h
  | cons p t ih =>
    rw [putL] at h
    split at h
    · rcases List.mem_cons.1 h with rfl | h
      · exact .inr (by simp)
      · rcases ih h with h | h
        · exact .inl h
        · exact .inr (by simp [h])
    · split at h
      · rcases List.mem_cons.1 h with rfl | h
        · exact .inl rfl
        · exact .inr (by simp [h])
      · rcases List.mem_cons.1 h with rfl | h
        · exact .inl rfl
        · exact .inr h
theorem putL_lt {l : List Pr} (key v : Int) (h : l.Pairwise (fun p q => p.k < q.k)) : (putL l key v).Pairwise (fun p q => p.k < q.k) := by
  induction l with
  | nil => simp [putL]
  | cons p t ih =>
    rw [List.pairwise_cons] at h
    rw [putL]
    split
    · rename_i h1
      rw [List.pairwise_cons]
      refine ⟨fun q hq => ?_, ih h.2⟩
      rcases putL_mem hq with rfl | hq
      · exact h1
      · exact h.1 q hq
    · split
      · rename_i h1 h2
        rw [List.pairwise_cons]
        exact ⟨fun q hq => by have := h.1 q hq; show key < q.k; omega, h.2⟩
      · rename_i h1 h2
        rw [List.pairwise_cons, List.pairwise_cons]
        refine ⟨fun q hq => ?_, h⟩
        rcases List.mem_cons.1 hq with rfl | hq
        · show key < q.k; omega
        · have := h.1 q hq; show key < q.k; omega
theorem putL_len (l : List Pr) (key v : Int) : (putL l key v).length ≤ l.length + 1 := by
  induction l with
  | nil => simp [putL]
  | cons p t ih =>
    rw [putL]
    split
    · simpa using ih
    · split <;> simp
theorem putL_set : ∀ (k : Nat) (l : List Pr) (key v : Int), k < l.length → (∀ j, j < k → (l.getD j default).k < key) → (l.getD k default).k = key → putL l key v = l.set k ⟨key, v⟩
  | _, [], _, _, h, _, _ => by simp at h
  | 0, p :: t, key, v, _, _, he => by
    simp only [List.getD_cons_zero] at he
    rw [putL, if_neg (by omega), if_pos he]
    rfl
  | k + 1, p :: t, key, v, h, hj, he => by
    have h0 := hj 0 (by omega)
    simp only [List.getD_cons_zero] at h0
    rw [putL, if_pos h0, putL_set k t key v (by simpa using h) (fun j hjk => by simpa using hj (j + 1) (by omega)) (by simpa using he)]
    rfl
theorem putL_ins : ∀ (k : Nat) (l : List Pr) (key v : Int), k ≤ l.length → (∀ j, j < k → (l.getD j default).k < key) → (k < l.length → key < (l.getD k default).k) → putL l key v = l.take k ++ ⟨key, v⟩ :: l.drop k
  | 0, [], key, v, _, _, _ => rfl
  | 0, p :: t, key, v, _, _, he => by
    have he' := he (by simp)
    simp only [List.getD_cons_zero] at he'
    rw [putL, if_neg (by omega), if_neg (by omega)]
    rfl
  | k + 1, [], key, v, h, _, _ => by simp at h
  | k + 1, p :: t, key, v, h, hj, he => by
    have h0 := hj 0 (by omega)
    simp only [List.getD_cons_zero] at h0
    rw [putL, if_pos h0, putL_ins k t key v (by simpa using h) (fun j hjk => by simpa using hj (j + 1) (by omega)) (fun h' => by simpa using he (by simpa using h'))]
    rfl

/-- What the reference lists. -/
def putG (l : List Pr) (key v : Int) (j : Nat) : Option Pr := if (j : Int) = key then some ⟨j, v⟩ else if (valAt l j).2 = true then some ⟨j, (valAt l j).1⟩ else none
def putTo (l : List Pr) (key v : Int) (k : Nat) : List Pr := (List.range k).filterMap (putG l key v)
theorem putTo_succ (l : List Pr) (key v : Int) (k : Nat) : putTo l key v (k + 1) = putTo l key v k ++ (putG l key v k).toList := by
  unfold putTo
  rw [List.range_succ, List.filterMap_append]
  congr 1
theorem putTo_len (l : List Pr) (key v : Int) (k : Nat) : (putTo l key v k).length ≤ k := by
  unfold putTo
  exact Nat.le_trans (List.length_filterMap_le _ _) (by simp)
theorem putG_look (l : List Pr) (key v : Int) (j : Nat) : putG l key v j = look (putL l key v) (0 + (j : Int)) := by
  rw [putL_look, Int.zero_add]
  unfold putG
  by_cases h : (j : Int) = key
  · rw [if_pos h, if_pos h, h]
  · rw [if_neg h, if_neg h, valAt_look]
    cases hl : look l j with
    | none => simp
    | some p =>
      have := (look_key hl).1
      obtain ⟨k, u⟩ := p
      simp only at this ⊢
      rw [if_pos trivial, this]
theorem putTo_all {l : List Pr} {key v : Int} (h : pairsB l = true) (hk : 0 ≤ key ∧ key ≤ 9) : putTo l key v 10 = putL l key v := by
  have e : putG l key v = fun j : Nat => look (putL l key v) (0 + (j : Int)) := funext (putG_look l key v)
  unfold putTo
  rw [e]
  refine canon 10 0 (putL l key v) (putL_lt key v (pairs_lt h)) (fun p hp => ?_)
  rcases putL_mem hp with rfl | hp
  · show 0 ≤ key ∧ key < 0 + ((10 : Nat) : Int)
    omega
  · have := pairs_rng h p hp
    omega

/-- Put's two results. -/
def putR (l : List Pr) (key v : Int) : List Pr × Bool := if pairsB l = true then (if rightB key v = true then (putL l key v, true) else (l, false)) else ([], false)
theorem putR_len (l : List Pr) (key v : Int) : (putR l key v).1.length ≤ 11 := by
  unfold putR
  split
  · rename_i h
    have h1 := pairsB_len h
    split
    · have := putL_len l key v
      simp only; omega
    · simp only; omega
  · simp
theorem PR_take' (l : List Pr) (k : Nat) : PR (l.take k) = (PR l).take (k * 2) := by
  induction l generalizing k with
  | nil => simp [PR]
  | cons p l ih =>
    cases k with
    | zero => simp [PR]
    | succ k =>
      have := ih k
      rw [List.take_succ_cons, show (k + 1) * 2 = k * 2 + 1 + 1 by omega]
      simp only [PR, List.flatMap_cons, List.cons_append, List.nil_append, List.take_succ_cons] at this ⊢
      rw [this]
theorem PR_drop' (l : List Pr) (k : Nat) : PR (l.drop k) = (PR l).drop (k * 2) := by
  induction l generalizing k with
  | nil => simp [PR]
  | cons p l ih =>
    cases k with
    | zero => simp [PR]
    | succ k =>
      have := ih k
      rw [List.drop_succ_cons, show (k + 1) * 2 = k * 2 + 1 + 1 by omega]
      simp only [PR, List.flatMap_cons, List.cons_append, List.nil_append, List.drop_succ_cons] at this ⊢
      exact this
theorem PR_ins (l : List Pr) (k : Nat) (key v : Int) : PR (l.take k ++ ⟨key, v⟩ :: l.drop k) = (PR l).take (k * 2) ++ [key, v] ++ (PR l).drop (k * 2) := by
  rw [PR_append, PR_take', List.append_assoc]
  congr 1
  show [key, v] ++ PR (l.drop k) = _
  rw [PR_drop']
theorem PR_set_getD (l : List Pr) (k : Nat) (key v : Int) (hk : k < l.length) (he : (l.getD k default).k = key) (t : Nat) (ht : t < l.length * 2) : (PR (l.set k ⟨key, v⟩)).getD t 0 = if t = k * 2 + 1 then v else (PR l).getD t 0 := by
  have hlen : (l.set k ⟨key, v⟩).length = l.length := by simp
  have hi : t / 2 < l.length := by omega
  have hset : ∀ i, i < l.length → (l.set k ⟨key, v⟩).getD i default = if i = k then ⟨key, v⟩ else l.getD i default := fun i hi => by
    by_cases h : i = k
    · subst h; simp [List.getD, hi]
    · simp [List.getD, List.getElem?_set_ne (Ne.symm h), h]
  rcases Nat.mod_two_eq_zero_or_one t with h | h
  · have ht' : t = t / 2 * 2 := by omega
    rw [ht', PR_get0 _ _ (by rw [hlen]; exact hi), PR_get0 _ _ hi, if_neg (by omega), hset _ hi]
    split
    · rename_i h2; rw [h2]; exact he.symm
    · rfl
  · have ht' : t = t / 2 * 2 + 1 := by omega
    rw [ht', PR_get1 _ _ (by rw [hlen]; exact hi), PR_get1 _ _ hi, hset _ hi]
    by_cases h2 : t / 2 = k
    · rw [if_pos h2, if_pos (by omega)]
    · rw [if_neg h2, if_neg (by omega)]
end Go.Proofs.Ytokklkmibjpjnaa
namespace Go.Proofs.Ytokklkmibjpjnaa
set_option linter.unusedSimpArgs false
set_option linter.unusedVariables false
attribute [local go_sem] n_lt2 n_lt3 n_lt4 n_le2 n_le3
open Go.RowKit

/-- What Insert leaves: the row with the new element. -/
def InsResPair (lo n i : Nat) (zs vs : List Int) (w : World) (e : Ending) (w' : World) : Prop := ∃ A' cap', e = .returned (.slice A' (n + 1) cap') ∧ Row w' lo 82 2 A' (n + 1) cap' (zs.take (i * 2) ++ vs ++ zs.drop (i * 2)) ∧ Below lo w w'
end Go.Proofs.Ytokklkmibjpjnaa
namespace Go.Proofs.Ytokklkmibjpjnaa
set_option linter.unusedSimpArgs false
set_option linter.unusedVariables false
attribute [local go_sem] n_lt2 n_lt3 n_lt4 n_le2 n_le3
open Go.RowKit
attribute [local go_sem] Ext.cell Ext.frozen

def RetPut (w : World) (l : List Pr) (key v : Int) (e : Ending) (w' : World) : Prop := RetRowB w 82 2 (putR l key v).1.length (PR (putR l key v).1) (putR l key v).2 e w'
theorem retPut {w w' : World} {l l' : List Pr} {key v : Int} {A : Option Addr} {n cap : Nat} {b : Bool} (h : putR l key v = (l', b)) (hn : n = l'.length) (R : Row w' w.heap.size 82 2 A n cap (PR l')) (hb : Below w.heap.size w w') :
    RetPut w l key v (.returned (.tuple #[.slice A n cap, .bool b])) w' := by
  unfold RetPut
  rw [h]
  subst hn
  exact ⟨A, cap, rfl, R, hb⟩
set_option maxRecDepth 100000 in
set_option maxHeartbeats 800000 in
theorem l14Copy_any (A : Option Addr) (n cap : Nat) (l : List Pr) (w : World) (hS : Sl w 2 A n (PR l)) (hl : l.length = n) (hn : n ≤ 1000) (hA : A = none → n = 0 ∧ cap = 0) :
    Calls Try.prog 41 #[.slice A n cap] w (RetRow w 82 2 n (PR l)) := by
  have R0 : Row (w.alloc (.cells #[] 82)) w.heap.size 82 2 (some ⟨w.heap.size, 0, none⟩) 0 0 [] := row0p (Blk.new w _ _) (Nat.le_refl _)
  have hnw := fun ad (h : A = some ad) => sl_news (hS.below ((Below.refl w.heap.size w).alloc (Nat.le_refl _) (.cells #[] 82))) h
  have hPl : (PR l).length = n * 2 := by rw [PR_len, hl]
  cases A with
  | none =>
    obtain ⟨rfl, rfl⟩ := hA rfl
    have hz : PR l = [] := List.eq_nil_of_length_eq_zero (by omega)
    rw [hz]
    obtain ⟨i0, hi0, hz0, hs0, hy0⟩ := info_parts info_Pair
    clear hnw hS hA hPl
    go_enter Try.func41, Try.ntmps41
    go_wp2_with (at_builtin; refine wpList_append_own_none rfl _ _ 24 rfl w.heap.size 82 i0 2 Try.underlying24 hi0 (.slice (some ⟨w.heap.size, 0, none⟩) 0 0) 0 [] rfl R0 rfl ?_)
    go_ret
    exact RetRow.mk R0 (by (repeat' (first | (with_reducible exact Below.refl _ _) | (with_reducible assumption) | (with_reducible refine Below.alloc ?_ ?_ _) | (with_reducible refine Below.drew ?_) | (with_reducible refine Below.setCell ?_ ?_ _) | (with_reducible refine bstep (by assumption) ?_ ?_) | (with_reducible exact Nat.le_refl _) | omega | (simp [*]; done) | (simp [*]; omega))))
  | some ad =>
    have hnw' := Lib.hid (hnw ad rfl)
    clear hnw hS hA
    go_enter Try.func41, Try.ntmps41
    go_wp2_with (at_builtin; refine wpList_append_row rfl _ _ 24 rfl 82 (.agg #[.int .i64 0, .int .i64 0]) 2 16 Try.underlying24 info_Pair (by first | kernel_rfl | simp [Value.cells]) (by decide) w.heap.size (some ⟨w.heap.size, 0, none⟩) 0 0 [] rfl R0 ad n cap (PR l) rfl hPl hnw'.out (by unfold maxLen; omega) (by omega) (by simp) ?_; intro A5 c5 w5 R5 B5)
    go_ret
    simp only [Nat.zero_add, List.nil_append] at R5 ⊢
    exact RetRow.mk R5 (((Below.refl w.heap.size w).alloc (Nat.le_refl _) _).trans B5)
set_option maxRecDepth 100000 in
set_option maxHeartbeats 2000000 in
theorem specPut_any (A : Option Addr) (n cap : Nat) (l : List Pr) (key v : Int) (w : World) (hS : Sl w 2 A n (PR l)) (hl : l.length = n) (hn : n ≤ maxLen) (hA : A = none → n = 0 ∧ cap = 0) :
    Calls Try.prog 45 #[.slice A n cap, .int .i64 key, .int .i64 v] w (RetPut w l key v) := by
  have c1 := specPairsOk_any A n cap l w hS hl hn
  by_cases hpa : pairsB l = true
  · have h10 : n ≤ 10 := by have := pairsB_len hpa; omega
    rw [hpa] at c1
    have HPA := Lib.hid hpa
    have HL := Lib.hid hl
    have HS := Lib.hid hS
    by_cases hr : rightB key v = true
    · have hkr : 0 ≤ key ∧ key ≤ 9 := by
        unfold rightB at hr
        simp only [Bool.and_eq_true, inB_iff] at hr
        exact hr.1
      have HR := Lib.hid (show putR l key v = (putL l key v, true) by unfold putR; rw [if_pos hpa, if_pos hr])
      have HT := Lib.hid (putTo_all (v := v) hpa hkr)
      obtain ⟨hk0, hk9⟩ := hkr
      clear hpa hl hS
      go_enter Try.func45, Try.ntmps45
      go_wp2_with fail
      refine c1.mono ?_
      rintro e w1 ⟨rfl, b1⟩
      go_wp2_with fail
      refine (l14Right_any key v w1).mono ?_
      rintro e w2 ⟨rfl, b2⟩
      rw [hr]
      have hbl2 := bthen b1 b2
      clear b1 b2
      go_wp2
      go_loopw [8, 9] (fun o i wr => ∃ k A0 n0 c0 zs, k ≤ 10 ∧ n0 ≤ k ∧ i = .int .i64 (k : Nat) ∧ o = .slice A0 n0 c0 ∧ Row wr w.heap.size 82 2 A0 n0 c0 zs ∧ Hid (zs = PR (putTo l key v k)) ∧ Below w.heap.size w wr) (fun _ i _ => 10 - (intOf i).toNat)
      case atStart => exact ⟨0, _, _, _, _, by omega, Nat.le_refl _, rfl, rfl, row0p (Blk.new w2 _ _) hbl2.size, Lib.hid rfl, hbl2.alloc hbl2.size _⟩
      case round =>
        obtain ⟨k, A0, n0, c0, zs, hk, hn0, rfl, rfl, R, hz, hbl⟩ := hrel
        by_cases hlt : k < 10
        · have hlt' : (k : Int) ≤ 9 := by omega
          have c2 := specValueAt_any A n cap l (k : Int) wr (HS.out.below hbl) HL.out hn
          have hv : valueAtB l (k : Int) = valAt l k := by unfold valueAtB; rw [if_pos HPA.out]
          rw [hv] at c2
          clear hv
          generalize hva : valAt l (k : Int) = va at c2
          obtain ⟨x, y⟩ := va
          have HVA := Lib.hid hva
          clear hva
          go_wp2_with fail
          refine c2.mono ?_
          rintro e w3 ⟨rfl, b3⟩
          have R3 := R.below b3
          have hbl3 := bstep b3 hbl hbl.size
          have hs3 := hbl3.size
          clear b3 R hbl hbl2 c2
          by_cases hkk : (k : Int) = key
          · have HE := Lib.hid (show PR (putTo l key v (k + 1)) = PR (putTo l key v k) ++ [(k : Int), v] by rw [putTo_succ, PR_append]; congr 1; unfold putG; rw [if_pos hkk]; rfl)
            have hkk' : ((k : Int) == key) = true := by simpa using hkk
            clear hkk
            go_wp2_with (at_builtin; refine wpList_append_row rfl _ _ 24 rfl 82 (.agg #[.int .i64 0, .int .i64 0]) 2 16 Try.underlying24 info_Pair (by first | kernel_rfl | simp [Value.cells]) (by decide) w.heap.size A0 n0 c0 zs rfl (World.ownsRow.alloc R3 _) ⟨w3.heap.size, 0, none⟩ 1 1 [(k : Int), v] rfl rfl (cell_two_new _ _ _ _) (by unfold maxLen; omega) (by omega) (by simp; omega) ?_; intro A5 c5 w5 R5 B5)
            exact ⟨⟨k + 1, A5, _, c5, _, by omega, by omega, by go_num, rfl, R5, Lib.hid (by rw [HE.out, hz.out]), (hbl3.alloc hs3 _).trans B5⟩, by simp [intOf]; omega⟩
          · have hkk' : ((k : Int) == key) = false := by simpa using hkk
            cases y
            · have HE := Lib.hid (show PR (putTo l key v (k + 1)) = PR (putTo l key v k) by rw [putTo_succ, PR_append]; unfold putG; rw [if_neg hkk, HVA.out]; simp [PR])
              clear hkk
              go_wp2
              exact ⟨⟨k + 1, A0, n0, c0, zs, by omega, by omega, by go_num, rfl, R3, Lib.hid (by rw [HE.out, hz.out]), hbl3⟩, by simp [intOf]; omega⟩
            · have HE := Lib.hid (show PR (putTo l key v (k + 1)) = PR (putTo l key v k) ++ [(k : Int), x] by rw [putTo_succ, PR_append]; unfold putG; rw [if_neg hkk, HVA.out]; simp [PR])
              clear hkk
              go_wp2_with (at_builtin; refine wpList_append_row rfl _ _ 24 rfl 82 (.agg #[.int .i64 0, .int .i64 0]) 2 16 Try.underlying24 info_Pair (by first | kernel_rfl | simp [Value.cells]) (by decide) w.heap.size A0 n0 c0 zs rfl (World.ownsRow.alloc R3 _) ⟨w3.heap.size, 0, none⟩ 1 1 [(k : Int), x] rfl rfl (cell_two_new _ _ _ _) (by unfold maxLen; omega) (by omega) (by simp; omega) ?_; intro A5 c5 w5 R5 B5)
              exact ⟨⟨k + 1, A5, _, c5, _, by omega, by omega, by go_num, rfl, R5, Lib.hid (by rw [HE.out, hz.out]), (hbl3.alloc hs3 _).trans B5⟩, by simp [intOf]; omega⟩
        · have hkn : k = 10 := by omega
          subst hkn
          go_wp2
          refine bodyPost_ret (v := .tuple #[.slice A0 n0 c0, .bool true]) (by simp [results, Try.results45, go_sem, *]) rfl ?_
          have hzz := hz.out
          rw [HT.out] at hzz
          subst hzz
          refine retPut HR.out ?_ R hbl
          have := R.len
          rw [PR_len] at this
          omega
    · have hr' : rightB key v = false := by simpa using hr
      have HR := Lib.hid (show putR l key v = (l, false) by unfold putR; rw [if_pos hpa, if_neg hr])
      clear hpa hl hS hr
      go_enter Try.func45, Try.ntmps45
      go_wp2_with fail
      refine c1.mono ?_
      rintro e w1 ⟨rfl, b1⟩
      go_wp2_with fail
      refine (l14Right_any key v w1).mono ?_
      rintro e w2 ⟨rfl, b2⟩
      rw [hr']
      have hbl2 := bthen b1 b2
      go_wp2_with fail
      refine (l14Copy_any A n cap l w2 (HS.out.below hbl2) HL.out (by omega) hA).mono ?_
      rintro e w3 ⟨A3, c3, rfl, R3, b3⟩
      go_wp2
      refine bodyPost_ret (v := .tuple #[.slice A3 n c3, .bool false]) (by simp [results, Try.results45, go_sem, *]) rfl ?_
      exact retPut HR.out HL.out.symm (R3.mono hbl2.size) (bthen hbl2 b3)
  · have hpa' : pairsB l = false := by simpa using hpa
    have HR := Lib.hid (show putR l key v = ([], false) by unfold putR; rw [if_neg hpa])
    rw [hpa'] at c1
    go_enter Try.func45, Try.ntmps45
    go_wp2_with fail
    refine c1.mono ?_
    rintro e w1 ⟨rfl, b1⟩
    go_wp2
    refine bodyPost_ret (v := .tuple #[.slice (some ⟨w1.heap.size, 0, none⟩) 0 0, .bool false]) (by simp [results, Try.results45, go_sem, *]) rfl ?_
    exact retPut HR.out rfl (row0p (Blk.new w1 _ _) b1.size) (b1.alloc b1.size _)
end Go.Proofs.Ytokklkmibjpjnaa
namespace Go.Proofs.Ytokklkmibjpjnaa
set_option linter.unusedSimpArgs false
set_option linter.unusedVariables false
attribute [local go_sem] n_lt2 n_lt3 n_lt4 n_le2 n_le3
open Go.RowKit

end Go.Proofs.Ytokklkmibjpjnaa
namespace Go.Proofs.Ytokklkmibjpjnaa
set_option linter.unusedSimpArgs false
set_option linter.unusedVariables false
attribute [local go_sem] n_lt2 n_lt3 n_lt4 n_le2 n_le3
open Go.RowKit

theorem Row.nil_of {w : World} {lo : Nat} {e : TypeId} {s : Nat} {A : Option Addr} {n cap : Nat} {zs : List Int} (h : Row w lo e s A n cap zs) : A = none → n = 0 ∧ cap = 0 := fun hA => by
  rcases h.2 with ⟨hv, h0⟩ | ⟨g, c, cur, hv, _⟩
  · injection hv with _ _ hc
    exact ⟨h0, hc⟩
  · injection hv with h1
    rw [hA] at h1
    cases h1
theorem PR_erase (l : List Pr) (k : Nat) : PR (l.eraseIdx k) = (PR l).take (k * 2) ++ (PR l).drop (k * 2 + 2) := by
  induction l generalizing k with
  | nil => simp [PR]
  | cons p l ih =>
    cases k with
    | zero => simp [PR]
    | succ k =>
      have := ih k
      rw [List.eraseIdx_cons_succ]
      have e1 : (k + 1) * 2 = k * 2 + 1 + 1 := by omega
      have e2 : (k + 1) * 2 + 2 = (k * 2 + 2) + 1 + 1 := by omega
      rw [e2, e1]
      simp only [PR, List.flatMap_cons, List.cons_append, List.nil_append, List.take_succ_cons, List.drop_succ_cons] at this ⊢
      rw [this]
theorem cutL_hit {l : List Pr} {key : Int} (h : pairsB l = true) (hk : keyIx l key < l.length) : (cutL l key).length = l.length - 1 := by
  rw [cutL_erase key h, List.length_eraseIdx, if_pos hk]
theorem cutL_miss {l : List Pr} {key : Int} (hk : ¬ keyIx l key < l.length) : cutL l key = l := by
  refine cutL_all (fun p hp hpk => hk ?_)
  unfold keyIx
  exact List.findIdx_lt_length_of_exists ⟨p, hp, by simpa using hpk⟩
attribute [local go_sem] Ext.cell Ext.frozen


/-- Both results in one: what is left, and whether a pair was cut out. -/
def cutR (l : List Pr) (key : Int) : List Pr × Bool := if pairsB l = true then (cutL l key, decide ((cutL l key).length < l.length)) else ([], false)
theorem cutR_len (l : List Pr) (key : Int) : (cutR l key).1.length ≤ 10 := by
  unfold cutR
  split
  · rename_i h
    exact Nat.le_trans (cutL_le l key) (pairsB_len h)
  · simp
theorem specCutOutR_any (A : Option Addr) (n cap : Nat) (l : List Pr) (key : Int) (w : World) (hS : Sl w 2 A n (PR l)) (hl : l.length = n) (hn : n ≤ maxLen) :
    Calls Try.prog 46 #[.slice A n cap, .int .i64 key] w (RetRowB w 82 2 (cutR l key).1.length (PR (cutR l key).1) (cutR l key).2) := by
  have c := specCutOut_any A n cap l key w hS hl hn
  unfold cutR
  subst hl
  split at c
  · rename_i h
    rw [if_pos h]
    exact c
  · rename_i h
    rw [if_neg h]
    exact c
end Go.Proofs.Ytokklkmibjpjnaa
namespace Go.Proofs.Ytokklkmibjpjnaa
set_option linter.unusedSimpArgs false
set_option linter.unusedVariables false
attribute [local go_sem] n_lt2 n_lt3 n_lt4 n_le2 n_le3
open Go.RowKit
attribute [local go_sem] Ext.cell Ext.frozen
/-- A draw has come to a list of its own, of at most m elements. -/
def RetL (w : World) (p C E s m : Nat) (e : Ending) (w' : World) : Prop := ∃ A n c zs, e = .returned (.slice A n c) ∧ n ≤ m ∧ Row w' w.heap.size E s A n c zs ∧ LC w' p C ∧ Wrote w w' (some ⟨p, 0, none⟩)
theorem rowp {w w' : World} {lo E s : Nat} {A : Option Addr} {n c p : Nat} {zs : List Int} (R : Row w lo E s A n c zs) (hw : Wrote w w' (some ⟨p, 0, none⟩)) (hp : p < lo) : Row w' lo E s A n c zs :=
  R.wrote hw (fun a b ha hb => by obtain rfl := Option.some.inj hb; have := R.ge a ha; show a.block ≠ p; omega)
/-- One cell of a row set. -/
theorem row_put {w : World} {lo E s : Nat} {b n cap : Nat} {zs : List Int} (R : Row w lo E s (some ⟨b, 0, none⟩) n cap zs) (hn : 0 < n) (j : Nat) (v : Int) (hj : j < n * s) : ∃ zs', Row (w.setCell ⟨b, j, none⟩ (.int .i64 v)) lo E s (some ⟨b, 0, none⟩) n cap zs' := by
  obtain ⟨g, cs, hA, hlo, K, h1, h2, h3, h4⟩ := R.blk hn
  obtain ⟨rfl⟩ : b = g := by injection hA with h; injection h
  have hz := R.len
  refine ⟨zs.set j v, Row.of_blk (K.set_ j _) hlo h1 h2 (by rw [Array.size_setIfInBounds]; exact h3) (by rw [List.length_set]; exact hz) (fun i hi => ?_)⟩
  have hle : n * s ≤ cap * s := Nat.mul_le_mul_right _ h1
  rw [Array.getElem?_setIfInBounds]
  by_cases hij : j = i
  · subst hij
    rw [if_pos rfl, if_pos (by omega)]
    simp [List.getD, List.getElem?_set, show j < zs.length by omega]
  · rw [if_neg hij, h4 i hi]
    simp [List.getD, List.getElem?_set, hij]
set_option maxRecDepth 100000 in
set_option maxHeartbeats 2000000 in
theorem l14Draw_any (p : Nat) (w : World) (hL : LC w p 74) : Calls Try.prog 16 #[.pointer (some ⟨p, 0, none⟩)] w (RetL w p 74 82 2 10) := by
  have HL := Lib.hid hL
  have hp := hL.lt
  clear hL
  have R0 : Row (w.alloc (.cells #[] 82)) w.heap.size 82 2 (some ⟨w.heap.size, 0, none⟩) 0 0 [] := row0p (Blk.new w _ _) (Nat.le_refl _)
  go_enter Try.func16, Try.ntmps16
  go_wp2
  go_loopw [3, 4] (fun lv iv wr => ∃ (k : Nat) (A : Option Addr) (n c : Nat) (zs : List Int), k ≤ 10 ∧ n ≤ k ∧ iv = .int .i64 k ∧ lv = .slice A n c ∧ Row wr w.heap.size 82 2 A n c zs ∧ LC wr p 74 ∧ Wrote w wr (some ⟨p, 0, none⟩)) (fun _ iv _ => 10 - (intOf iv).toNat)
  case atStart => exact ⟨0, _, 0, 0, [], by omega, by omega, rfl, rfl, R0, HL.out.new (by (repeat' (first | (with_reducible exact Below.refl _ _) | (with_reducible assumption) | (with_reducible refine Below.alloc ?_ ?_ _) | (with_reducible refine Below.drew ?_) | (with_reducible refine Below.setCell ?_ ?_ _) | (with_reducible refine bstep (by assumption) ?_ ?_) | (with_reducible exact Nat.le_refl _) | omega | (simp [*]; done) | (simp [*]; omega)))), wrote_below (by (repeat' (first | (with_reducible exact Below.refl _ _) | (with_reducible assumption) | (with_reducible refine Below.alloc ?_ ?_ _) | (with_reducible refine Below.drew ?_) | (with_reducible refine Below.setCell ?_ ?_ _) | (with_reducible refine bstep (by assumption) ?_ ?_) | (with_reducible exact Nat.le_refl _) | omega | (simp [*]; done) | (simp [*]; omega)))) _⟩
  case round =>
    obtain ⟨k, A, n, c, zs, hk, hn, rfl, rfl, R, L, W⟩ := hrel
    have hz := W.size
    by_cases hlt : k < 10
    · have hk9 : (k : Int) ≤ 9 := by omega
      go_wp2_with fail
      refine (l1Once_any p 2 wr L (by omega) (by omega)).mono ?_
      rintro e w1 ⟨b, rfl, L1, W1⟩
      have R1 := rowp R W1 hp
      have V1 := wrote_trans W W1
      have hz1 := W1.size
      clear R L
      cases b with
      | false =>
        go_wp2
        exact ⟨⟨k + 1, A, n, c, zs, by omega, by omega, by go_num, rfl, R1, L1, V1⟩, by simp [intOf]; omega⟩
      | true =>
        go_wp2_with fail
        refine (l1Below_any p 4 w1 L1 (by omega) (by omega)).mono ?_
        rintro e w2 ⟨x, rfl, ⟨hx0, hx1⟩, L2, W2⟩
        have R2 := rowp R1 W2 hp
        have V2 := wrote_trans V1 W2
        have hz2 := W2.size
        clear R1 L1
        have L2' := L2.new ((Below.refl w2.heap.size w2).alloc (Nat.le_refl _) (.cells #[.int .i64 k, .int .i64 x] 82))
        have V2' := wrote_grow V2 ((Below.refl w2.heap.size w2).alloc (Nat.le_refl _) (.cells #[.int .i64 k, .int .i64 x] 82)) V2.size
        have HH := Lib.hid (And.intro L2' V2')
        clear L2' V2'
        go_wp2_with (at_builtin; refine wpList_append_row rfl _ _ 24 rfl 82 (.agg #[.int .i64 0, .int .i64 0]) 2 16 Try.underlying24 info_Pair (by first | kernel_rfl | simp [Value.cells]) (by decide) w.heap.size A n c zs rfl (World.ownsRow.alloc R2 _) ⟨w2.heap.size, 0, none⟩ 1 1 [(k : Int), x] rfl rfl (cell_two_new _ _ _ _) (by unfold maxLen; omega) (by omega) (by simp; omega) ?_; intro A5 c5 w5 R5 B5)
        exact ⟨⟨k + 1, A5, _, c5, _, by omega, by omega, by go_num, rfl, R5, HH.out.1.below B5 hp, wrote_grow HH.out.2 B5 (Nat.le_refl _)⟩, by simp [intOf]; omega⟩
    · have hk10 : k = 10 := by omega
      subst hk10
      go_wp2
      go_ret
      exact ⟨A, n, c, zs, rfl, hn, R, L, W⟩
set_option maxRecDepth 100000 in
set_option maxHeartbeats 4000000 in
theorem l14DrawAny_any (p : Nat) (w : World) (hL : LC w p 74) : Calls Try.prog 38 #[.pointer (some ⟨p, 0, none⟩)] w (RetL w p 74 82 2 20) := by
  have HL := Lib.hid hL
  have hp := hL.lt
  clear hL
  go_enter Try.func38, Try.ntmps38
  go_wp2_with fail
  refine (l14Draw_any p w HL.out).mono ?_
  rintro e w1 ⟨A, n, c, zs, rfl, hn, R1, L1, W1⟩
  have hz1 := W1.size
  go_wp2_with fail
  refine (l1Once_any p 6 w1 L1 (by omega) (by omega)).mono ?_
  rintro e w2 ⟨b, rfl, L2, W2⟩
  have R2 := rowp R1 W2 hp
  have V2 := wrote_trans W1 W2
  have hz2 := W2.size
  clear R1 L1 W1 W2
  cases b with
  | false =>
    go_wp2
    go_ret
    exact ⟨A, n, c, zs, rfl, by omega, R2, L2, V2⟩
  | true =>
    go_wp2_with fail
    refine (l1Below_any p 4 w2 L2 (by omega) (by omega)).mono ?_
    rintro e w3 ⟨x, rfl, ⟨hx0, hx1⟩, L3, W3⟩
    have R3 := rowp R2 W3 hp
    have V3 := wrote_trans V2 W3
    have hz3 := W3.size
    clear R2 L2 V2 W3
    rcases (by omega : x = 0 ∨ x = 1 ∨ x = 2 ∨ x = 3) with rfl | rfl | rfl | rfl
    · go_wp2_with fail
      refine (l1Num_any p 9 w3 L3 (by omega) (by omega)).mono ?_
      rintro e w4 ⟨k, rfl, _, L4, W4⟩
      have R4 := rowp R3 W4 hp
      have V4 := wrote_trans V3 W4
      have hz4 := W4.size
      clear R3 L3 V3 W4
      go_wp2_with fail
      refine (l1Num_any p 999 w4 L4 (by omega) (by omega)).mono ?_
      rintro e w6 ⟨v, rfl, _, L6, W6⟩
      have R6 := rowp R4 W6 hp
      have V6 := wrote_trans V4 W6
      have hz6 := W6.size
      clear R4 L4 V4 W6
      have L2' := L6.new ((Below.refl w6.heap.size w6).alloc (Nat.le_refl _) (.cells #[.int .i64 k, .int .i64 v] 82))
      have V2' := wrote_grow V6 ((Below.refl w6.heap.size w6).alloc (Nat.le_refl _) (.cells #[.int .i64 k, .int .i64 v] 82)) V6.size
      have HH := Lib.hid (And.intro L2' V2')
      clear L2' V2'
      go_wp2_with (at_builtin; refine wpList_append_row rfl _ _ 24 rfl 82 (.agg #[.int .i64 0, .int .i64 0]) 2 16 Try.underlying24 info_Pair (by first | kernel_rfl | simp [Value.cells]) (by decide) w.heap.size A n c zs rfl (World.ownsRow.alloc R6 _) ⟨w6.heap.size, 0, none⟩ 1 1 [k, v] rfl rfl (cell_two_new _ _ _ _) (by unfold maxLen; omega) (by omega) (by simp; omega) ?_; intro A5 c5 w5 R5 B5)
      go_ret
      exact ⟨A5, _, c5, _, rfl, by omega, R5, HH.out.1.below B5 hp, wrote_grow HH.out.2 B5 (Nat.le_refl _)⟩
    · have HP := Lib.hid R3
      cases hA : A with
      | none =>
        subst hA
        obtain ⟨rfl, rfl⟩ : n = 0 ∧ c = 0 := by
          rcases R3.2 with ⟨hv, h0⟩ | ⟨g, c', cur, hv, _⟩
          · injection hv with _ h1 h2; exact ⟨h0, h2⟩
          · injection hv with h1; cases h1
        obtain ⟨i0, hi0, hz0, hs0, hy0⟩ := info_parts info_Pair
        have hzs : zs = [] := List.eq_nil_of_length_eq_zero (by have := R3.len; omega)
        subst hzs
        go_wp2_with (at_builtin; refine wpList_append_own_none rfl _ _ 24 rfl w.heap.size 82 i0 2 Try.underlying24 hi0 (.slice none 0 0) 0 [] rfl R3 rfl ?_)
        go_ret
        exact ⟨none, 0, 0, [], rfl, by omega, HP.out, L3, V3⟩
      | some ad =>
        subst hA
        have hnw := Lib.hid (sl_news R3.sl rfl)
        have hln := R3.len
        have HH := Lib.hid (And.intro L3 V3)
        clear L3 V3
        go_wp2_with (at_builtin; refine wpList_append_row rfl _ _ 24 rfl 82 (.agg #[.int .i64 0, .int .i64 0]) 2 16 Try.underlying24 info_Pair (by first | kernel_rfl | simp [Value.cells]) (by decide) w.heap.size (some ad) n c zs rfl R3 ad n c zs rfl hln hnw.out (by unfold maxLen; omega) (by omega) (by omega) ?_; intro A5 c5 w5 R5 B5)
        go_ret
        exact ⟨A5, _, c5, _, rfl, by omega, R5, HH.out.1.below B5 hp, wrote_grow HH.out.2 B5 (Nat.le_refl _)⟩
    · have L2' := L3.new ((Below.refl w3.heap.size w3).alloc (Nat.le_refl _) (.cells #[.int .i64 9, .int .i64 999] 82))
      have V2' := wrote_grow V3 ((Below.refl w3.heap.size w3).alloc (Nat.le_refl _) (.cells #[.int .i64 9, .int .i64 999] 82)) V3.size
      have HH := Lib.hid (And.intro L2' V2')
      clear L2' V2'
      go_wp2_with (at_builtin; refine wpList_append_row rfl _ _ 24 rfl 82 (.agg #[.int .i64 0, .int .i64 0]) 2 16 Try.underlying24 info_Pair (by first | kernel_rfl | simp [Value.cells]) (by decide) w.heap.size A n c zs rfl (World.ownsRow.alloc R3 _) ⟨w3.heap.size, 0, none⟩ 1 1 [9, 999] rfl rfl (cell_two_new _ _ _ _) (by unfold maxLen; omega) (by omega) (by simp; omega) ?_; intro A5 c5 w5 R5 B5)
      go_ret
      exact ⟨A5, _, c5, _, rfl, by omega, R5, HH.out.1.below B5 hp, wrote_grow HH.out.2 B5 (Nat.le_refl _)⟩
    · by_cases hn0 : 0 < n
      · have hn0' : (0 : Int) < (n : Int) := by omega
        obtain ⟨g, cs, rfl, hlo, K, h1, h2, h3, h4⟩ := R3.blk hn0
        have HR := Lib.hid R3
        clear R3 K h4
        go_wp2_with fail
        refine calls_named ?_
        rintro v0 hv0
        have f0 : Below w3.heap.size w3 v0 := by rw [hv0]; (repeat' (first | (with_reducible exact Below.refl _ _) | (with_reducible assumption) | (with_reducible refine Below.alloc ?_ ?_ _) | (with_reducible refine Below.drew ?_) | (with_reducible refine Below.setCell ?_ ?_ _) | (with_reducible refine bstep (by assumption) ?_ ?_) | (with_reducible exact Nat.le_refl _) | omega | (simp [*]; done) | (simp [*]; omega)))
        have K0 := Lib.hid (show Blk v0 w3.heap.size 2 #[.int .i64 (-1), .int .i64 999, .int .i64 1000] by rw [hv0]; exact Blk.new _ _ _)
        clear hv0
        have HR0 := Lib.hid (HR.out.below f0)
        refine (l1Below_any p 3 v0 (L3.new f0) (by omega) (by omega)).mono ?_
        rintro e w4 ⟨x, rfl, ⟨hx0, hx1⟩, L4, W4⟩
        have K1 := K0.out.wroteA W4 (fun a ha => by obtain rfl := Option.some.inj ha; have := L3.lt; show p ≠ w3.heap.size; omega)
        have HR1 := Lib.hid (rowp HR0.out W4 hp)
        obtain ⟨k, rfl⟩ : ∃ k : Nat, x = k := ⟨x.toNat, by omega⟩
        obtain ⟨v, hv⟩ := lit_cell [-1, 999, 1000] K1 k (by simp; omega)
        have lt0 := K1.lt
        obtain ⟨zs', hz'⟩ := row_put HR1.out hn0 1 v (by omega)
        have HZ := Lib.hid hz'
        have V4 := Lib.hid (wrote_trans (wrote_trans V3 (wrote_below f0 _)) W4)
        obtain ⟨_, cs', hA', _, K', _, _, h3', _⟩ := HR1.out.blk hn0
        injection hA' with hA'
        injection hA' with hA'
        subst hA'
        obtain ⟨u1, g1⟩ := K'.has (i := 1) (by omega)
        have fz := K'.frozen 1
        have ltg := K'.lt
        clear K1 K0 hz' HR HR0 K'
        go_wp2
        go_ret
        refine ⟨some ⟨g, 0, none⟩, n, c, zs', rfl, by omega, HZ.out, L4.wrote (A := some ⟨g, 0, none⟩) (wrote_set (p := ⟨g, 1, none⟩) (wrote_refl _ _) rfl _) (fun a ha => by obtain rfl := Option.some.inj ha; show p < g; omega), ?_⟩
        exact wrote_grow V4.out ((Below.refl w.heap.size w4).setCell (show w.heap.size ≤ g from hlo) _) (Nat.le_refl _)
      · have hn0' : ¬ (0 : Int) < (n : Int) := by omega
        go_wp2
        go_ret
        exact ⟨A, n, c, zs, rfl, by omega, R3, L3, V3⟩
end Go.Proofs.Ytokklkmibjpjnaa
