/- Part 1 of what the claim rests on: Lib, A1, Mem, SPair, SJob, Lease, Lease2, Set, Nm, Bk, St1, SOp, SEntry, Flat, FlatS, P1, P3, P4, App, App2, P7, P8, PutL. No condition of its own. -/
import Derived.WalkKit
import Derived.WalkSpells
import Derived.WalkLawsBesides
import Derived.Deep.QuietTactic
import Derived.BigQuiet
import Derived.Below
import Derived.Lib.Hide
import Derived.Handy
import Derived.Test.YtokklkmibjpjnaaGreatProg
import Derived.Maps.AppendAt
import Derived.Laws.IdiomCopy
import Derived.Lib.SliceRun
import Derived.Lib.AppendZerosOnto
import Derived.ProofKit
import Derived.Deep.Slices
import Derived.OwnWalk
import Derived.Laws.AppendOwnNone
namespace Go.Proofs.YtokklkmibjpjnaaGreat
set_option linter.unusedSimpArgs false
set_option linter.unusedVariables false
open Go.RowKit

theorem n_lt2 (n : Nat) : (n < n + 1 + 1) = True := by simp; omega
theorem n_lt3 (n : Nat) : (n < n + 1 + 1 + 1) = True := by simp; omega
theorem n_lt4 (n : Nat) : (n < n + 1 + 1 + 1 + 1) = True := by simp; omega
theorem n_le2 (n : Nat) : (n ≤ n + 1 + 1) = True := by simp; omega
theorem n_le3 (n : Nat) : (n ≤ n + 1 + 1 + 1) = True := by simp; omega

/-- A world that is W but for new memory. -/
structure Ext (W : World) where
  w : World
  h : Below W.heap.size W w

instance (W : World) : Inhabited (Ext W) := ⟨⟨W, Below.refl _ _⟩⟩

theorem Ext.cell {W : World} (z : Ext W) (b o : Nat) (hb : b < W.heap.size) : z.w.cell? ⟨b, o, none⟩ = W.cell? ⟨b, o, none⟩ := z.h.cell (p := ⟨b, o, none⟩) hb
theorem Ext.frozen {W : World} (z : Ext W) (b o : Nat) (hb : b < W.heap.size) : z.w.frozen? ⟨b, o, none⟩ = W.frozen? ⟨b, o, none⟩ := z.h.frozen (p := ⟨b, o, none⟩) hb

/-- A frame, cell by cell: the walk uses it as two rules. -/
theorem bcell {W w1 : World} (hb : Below W.heap.size W w1) : (∀ b o, b < W.heap.size → w1.cell? ⟨b, o, none⟩ = W.cell? ⟨b, o, none⟩) ∧ (∀ b o, b < W.heap.size → w1.frozen? ⟨b, o, none⟩ = W.frozen? ⟨b, o, none⟩) ∧
    (∀ x, x < W.heap.size → x < w1.heap.size) ∧ (∀ x, x ≤ W.heap.size → x ≤ w1.heap.size) ∧ (∀ x k, x < W.heap.size → x < w1.heap.size + k) ∧ (∀ x k, x ≤ W.heap.size → x ≤ w1.heap.size + k) :=
  ⟨fun b o h => hb.cell (p := ⟨b, o, none⟩) h, fun b o h => hb.frozen (p := ⟨b, o, none⟩) h, fun _ h => Nat.lt_of_lt_of_le h hb.size, fun _ h => Nat.le_trans h hb.size, fun _ _ h => Nat.lt_of_lt_of_le h (Nat.le_trans hb.size (Nat.le_add_right _ _)), fun _ _ h => Nat.le_trans h (Nat.le_trans hb.size (Nat.le_add_right _ _))⟩

theorem below_drewN {B : Nat} {a w : World} (h : Below B a w) (n : Nat) : Below B a (w.drewN n) := ⟨h.os, h.tape, h.output, h.size, h.block⟩

/-- One call more. -/
theorem bstep {B : Nat} {a W w' : World} (h : Below W.heap.size W w') (h1 : Below B a W) (hB : B ≤ W.heap.size) : Below B a w' := h1.trans (h.mono hB)

/-- A region that draws its order, whose operations only read and whose callees make at most new memory: one walk in the order of the text. -/
theorem wp_region_ext {P : Program} {id : Nat} {Q : Exit → Act → World → Prop} {a : Act} {w : World} {l : List Oper} (hm : P.follows .mixedOrders = true) (hB : Region.lexB .any l.toArray = true)
    (h : wpQuiet P l.toArray (fun w' => ∃ z : Ext w, w' = z.w) (fun a' => ∀ w', (∃ z : Ext w, w' = z.w) → Q .normal a' w') l a) : (Code.region id l.toArray true).wp P Q a w :=
  wp_region_quiet (C := fun w' => ∃ z : Ext w, w' = z.w) hm hB ⟨⟨{ w with drawn := w.drawn + 1 }, ⟨rfl, rfl, rfl, Nat.le_refl _, fun _ _ => rfl⟩⟩, rfl⟩ (by simpa using h)

/-- A callee's contract inside such a region. -/
theorem quiet_ext {P : Program} {f : FuncId} {args : Array Value} {W : World} {z : Ext W} {v : Value}
    (h : Calls P f args z.w fun e w' => e = .returned v ∧ Below z.w.heap.size z.w w') : Calls P f args z.w fun e w'' => e = .returned v ∧ ∃ z' : Ext W, w'' = z'.w :=
  h.mono fun _ w'' ⟨he, hm⟩ => ⟨he, ⟨w'', bstep hm z.h z.h.size⟩, rfl⟩
theorem quiet_ext_same {P : Program} {f : FuncId} {args : Array Value} {W : World} {z : Ext W} {v : Value}
    (h : Calls P f args z.w fun e w' => e = .returned v ∧ z.w = w') : Calls P f args z.w fun e w'' => e = .returned v ∧ ∃ z' : Ext W, w'' = z'.w :=
  h.mono fun _ _ ⟨he, hm⟩ => ⟨he, z, hm.symm⟩

theorem ret_bool {a b : Bool} (h : a = b) : Ending.returned (.bool a) = .returned (.bool b) := by rw [h]
theorem ret_int {k : IntKind} {a b : Int} (h : a = b) : Ending.returned (.int k a) = .returned (.int k b) := by rw [h]
theorem all_range_false {n k : Nat} {f : Nat → Bool} (hk : k < n) (hf : f k = false) : (List.range n).all f = false := by
  rw [List.all_eq_false]
  exact ⟨k, List.mem_range.2 hk, by simp [hf]⟩
theorem all_range_true {n : Nat} {f : Nat → Bool} (h : ∀ j, j < n → f j = true) : (List.range n).all f = true := by
  rw [List.all_eq_true]
  exact fun j hj => h j (List.mem_range.1 hj)
theorem upto_succ {k : Nat} {f : Nat → Bool} (h : ∀ j, j < k → f j = true) (hk : f k = true) : ∀ j, j < k + 1 → f j = true := fun j hj => by
  rcases Nat.lt_or_ge j k with h1 | h1
  · exact h j h1
  · obtain rfl : j = k := by omega
    exact hk

end Go.Proofs.YtokklkmibjpjnaaGreat
namespace Go.Proofs.YtokklkmibjpjnaaGreat
set_option linter.unusedSimpArgs false
set_option linter.unusedVariables false
attribute [local go_sem] n_lt2 n_lt3 n_lt4 n_le2 n_le3
open Go.RowKit

def inB (x lo hi : Int) : Bool := decide (lo ≤ x) && decide (x ≤ hi)
theorem inB_iff (x lo hi : Int) : inB x lo hi = true ↔ lo ≤ x ∧ x ≤ hi := by unfold inB; simp

theorem between_any (x lo hi : Int) (w : World) :
    Calls Tryz.prog 74 #[.int .i64 x, .int .i64 lo, .int .i64 hi] w fun e w' => e = .returned (.bool (inB x lo hi)) ∧ w = w' := by
  have hx : inB x lo hi = (decide (lo ≤ x) && decide (x ≤ hi)) := rfl
  rw [hx]; clear hx
  by_cases h1 : lo ≤ x
  · have e1 : decide (lo ≤ x) = true := by simpa using h1
    go_enter Tryz.func74, Tryz.ntmps74
    go_wp2
    all_goals (go_ret; exact ⟨by simp [*], rfl⟩)
  · have e1 : decide (lo ≤ x) = false := by simpa using h1
    go_enter Tryz.func74, Tryz.ntmps74
    go_wp2
    all_goals (go_ret; exact ⟨by simp [*], rfl⟩)
theorem l1In_any (x lo hi : Int) (w : World) :
    Calls Tryz.prog 60 #[.int .i64 x, .int .i64 lo, .int .i64 hi] w fun e w' => e = .returned (.bool (inB x lo hi)) ∧ w = w' := by
  have hx : inB x lo hi = (decide (lo ≤ x) && decide (x ≤ hi)) := rfl
  rw [hx]; clear hx
  by_cases h1 : lo ≤ x
  · have e1 : decide (lo ≤ x) = true := by simpa using h1
    go_enter Tryz.func60, Tryz.ntmps60
    go_wp2
    all_goals (go_ret; exact ⟨by simp [*], rfl⟩)
  · have e1 : decide (lo ≤ x) = false := by simpa using h1
    go_enter Tryz.func60, Tryz.ntmps60
    go_wp2
    all_goals (go_ret; exact ⟨by simp [*], rfl⟩)
theorem idOk_any (x : Int) (w : World) :
    Calls Tryz.prog 114 #[.int .i64 x] w fun e w' => e = .returned (.bool (inB x 1 20)) ∧ w = w' := by
  go_enter Tryz.func114, Tryz.ntmps114
  go_wp2_with ((go_at_call 74; refine (between_any _ _ _ _).mono ?_; rintro e w' ⟨rfl, rfl⟩))
  go_ret; exact ⟨rfl, rfl⟩
theorem timeOk_any (x : Int) (w : World) :
    Calls Tryz.prog 75 #[.int .i64 x] w fun e w' => e = .returned (.bool (inB x 0 1000000)) ∧ w = w' := by
  go_enter Tryz.func75, Tryz.ntmps75
  go_wp2_with ((go_at_call 74; refine (between_any _ _ _ _).mono ?_; rintro e w' ⟨rfl, rfl⟩))
  go_ret; exact ⟨rfl, rfl⟩
theorem keyOk_any (x : Int) (w : World) :
    Calls Tryz.prog 88 #[.int .i64 x] w fun e w' => e = .returned (.bool (inB x 0 9)) ∧ w = w' := by
  go_enter Tryz.func88, Tryz.ntmps88
  go_wp2_with ((go_at_call 74; refine (between_any _ _ _ _).mono ?_; rintro e w' ⟨rfl, rfl⟩))
  go_ret; exact ⟨rfl, rfl⟩
theorem valueOk_any (x : Int) (w : World) :
    Calls Tryz.prog 89 #[.int .i64 x] w fun e w' => e = .returned (.bool (inB x 0 999)) ∧ w = w' := by
  go_enter Tryz.func89, Tryz.ntmps89
  go_wp2_with ((go_at_call 74; refine (between_any _ _ _ _).mono ?_; rintro e w' ⟨rfl, rfl⟩))
  go_ret; exact ⟨rfl, rfl⟩
end Go.Proofs.YtokklkmibjpjnaaGreat
namespace Go.Proofs.YtokklkmibjpjnaaGreat
set_option linter.unusedSimpArgs false
set_option linter.unusedVariables false
attribute [local go_sem] n_lt2 n_lt3 n_lt4 n_le2 n_le3
open Go.RowKit

def ints (zs : List Int) : List Value := zs.map (Value.int .i64)
theorem ints_length (zs : List Int) : (ints zs).length = zs.length := by simp [ints]
theorem ints_get (zs : List Int) (j : Nat) (h : j < zs.length) : (ints zs)[j]? = some (.int .i64 (zs.getD j 0)) := by
  simp [ints, List.getD, h]
theorem ints_oneCell' (zs : List Int) : ∀ u ∈ ints zs, u.oneCell' = true := ints_oneCell .i64 zs
theorem ints_append (a b : List Int) : ints (a ++ b) = ints a ++ ints b := by simp [ints]
theorem ints_inj {a b : List Int} (h : ints a = ints b) : a = b := by
  unfold ints at h
  exact List.map_inj_right (fun x y hxy => by injection hxy) |>.1 h

/-- The slice value '.slice A n _' of elements of s cells reads as the numbers zs, one behind the other. -/
def Sl (w : World) (s : Nat) (A : Option Addr) (n : Nat) (zs : List Int) : Prop :=
  zs.length = n * s ∧ (0 < n → ∃ b off, A = some ⟨b, off, none⟩ ∧ b < w.heap.size ∧ ∀ j, j < n * s → w.cell? ⟨b, off + j, none⟩ = some (.int .i64 (zs.getD j 0)))

theorem Sl.len {w : World} {s : Nat} {A : Option Addr} {n : Nat} {zs : List Int} (h : Sl w s A n zs) : zs.length = n * s := h.1
theorem Sl.nil (w : World) (s : Nat) (A : Option Addr) : Sl w s A 0 [] := ⟨by simp, fun h => absurd h (by omega)⟩
theorem Sl.keep {w w' : World} {s : Nat} {A : Option Addr} {n : Nat} {zs : List Int} (h : Sl w s A n zs) (hs : w.heap.size ≤ w'.heap.size) (hc : ∀ p : Addr, A.map (·.block) = some p.block → w'.cell? p = w.cell? p) : Sl w' s A n zs :=
  ⟨h.1, fun hn => by
    obtain ⟨b, off, rfl, hb, hj⟩ := h.2 hn
    exact ⟨b, off, rfl, Nat.lt_of_lt_of_le hb hs, fun j hjn => (hc ⟨b, off + j, none⟩ rfl).trans (hj j hjn)⟩⟩
theorem Sl.below {w w' : World} {s : Nat} {A : Option Addr} {n : Nat} {zs : List Int} (h : Sl w s A n zs) (hb : Below w.heap.size w w') : Sl w' s A n zs :=
  ⟨h.1, fun hn => by
    obtain ⟨b, off, rfl, hbl, hj⟩ := h.2 hn
    exact ⟨b, off, rfl, Nat.lt_of_lt_of_le hbl hb.size, fun j hjn => (hb.cell hbl).trans (hj j hjn)⟩⟩
theorem Sl.drew {w : World} {s : Nat} {A : Option Addr} {n : Nat} {zs : List Int} (h : Sl w s A n zs) : Sl w.drew s A n zs := h
theorem Sl.at_ {w : World} {s : Nat} {A : Option Addr} {n : Nat} {zs : List Int} (h : Sl w s A n zs) (hn : 0 < n) :
    ∃ b off, A = some ⟨b, off, none⟩ ∧ b < w.heap.size ∧ ∀ j, j < n * s → w.cell? ⟨b, off + j, none⟩ = some (.int .i64 (zs.getD j 0)) := h.2 hn

/-- A row of the call's own, from block lo on: its slice value is '.slice A n cap', its numbers zs. -/
def Row (w : World) (lo : Nat) (e : TypeId) (s : Nat) (A : Option Addr) (n cap : Nat) (zs : List Int) : Prop := w.ownsRow lo e s (.slice A n cap) n (ints zs)

/-- The blocks of a slice lie below hi. -/
def LtB (A : Option Addr) (hi : Nat) : Prop := ∀ a, A = some a → a.block < hi
theorem LtB.mono {A : Option Addr} {hi hi' : Nat} (h : LtB A hi) (hh : hi ≤ hi') : LtB A hi' := fun a ha => Nat.lt_of_lt_of_le (h a ha) hh

theorem Row.lt {w : World} {lo : Nat} {e : TypeId} {s : Nat} {A : Option Addr} {n cap : Nat} {zs : List Int} (h : Row w lo e s A n cap zs) : LtB A w.heap.size := fun a ha => by
  subst ha
  exact (World.ownsRow.lt h a.block rfl).2
theorem Row.ge {w : World} {lo : Nat} {e : TypeId} {s : Nat} {A : Option Addr} {n cap : Nat} {zs : List Int} (h : Row w lo e s A n cap zs) : ∀ a, A = some a → lo ≤ a.block := fun a ha => by
  subst ha
  exact (World.ownsRow.lt h a.block rfl).1
theorem Row.len {w : World} {lo : Nat} {e : TypeId} {s : Nat} {A : Option Addr} {n cap : Nat} {zs : List Int} (h : Row w lo e s A n cap zs) : zs.length = n * s := by
  have := h.1
  rwa [ints_length] at this
theorem Row.sl {w : World} {lo : Nat} {e : TypeId} {s : Nat} {A : Option Addr} {n cap : Nat} {zs : List Int} (h : Row w lo e s A n cap zs) : Sl w s A n zs := by
  refine ⟨h.len, fun hn => ?_⟩
  have hlt := h.lt
  have hl := h.len
  rcases h.2 with ⟨_, h0⟩ | ⟨g, c, cur, hv, _, hg, _, _, hcs, ht⟩
  · omega
  · obtain ⟨rfl, rfl⟩ : A = some ⟨g, 0, none⟩ ∧ cap = c := by
      injection hv with h1 _ h3
      exact ⟨h1, h3⟩
    refine ⟨g, 0, rfl, hlt _ rfl, fun j hj => ?_⟩
    have hc := World.ownsRow.cellAt h j hj
    rw [Nat.zero_add, hc]
    exact ints_get zs j (by omega)
theorem Row.keep {w w' : World} {lo : Nat} {e : TypeId} {s : Nat} {A : Option Addr} {n cap : Nat} {zs : List Int} (h : Row w lo e s A n cap zs) (hk : ∀ a, A = some a → w'.heap[a.block]? = w.heap[a.block]?) : Row w' lo e s A n cap zs := by
  refine ⟨h.1, ?_⟩
  rcases h.2 with hn | ⟨g, c, cur, hv, hb, hg, rest⟩
  · exact .inl hn
  · refine .inr ⟨g, c, cur, hv, hb, ?_, rest⟩
    have hA : A = some ⟨g, 0, none⟩ := by injection hv
    rw [hk _ hA]
    exact hg
theorem Row.below {w w' : World} {lo : Nat} {e : TypeId} {s : Nat} {A : Option Addr} {n cap : Nat} {zs : List Int} (h : Row w lo e s A n cap zs) (hb : Below w.heap.size w w') : Row w' lo e s A n cap zs :=
  h.keep fun a ha => hb.block _ (h.lt a ha)
theorem Row.mono {w : World} {lo lo' : Nat} {e : TypeId} {s : Nat} {A : Option Addr} {n cap : Nat} {zs : List Int} (h : Row w lo e s A n cap zs) (hl : lo' ≤ lo) : Row w lo' e s A n cap zs := by
  refine ⟨h.1, ?_⟩
  rcases h.2 with hn | ⟨g, c, cur, hv, hb, rest⟩
  · exact .inl hn
  · exact .inr ⟨g, c, cur, hv, Nat.le_trans hl hb, rest⟩
theorem Row.nil (w : World) (lo : Nat) (e : TypeId) (s : Nat) : Row w lo e s none 0 0 [] := World.ownsRow_nil w lo e s
theorem Row.cap_le {w : World} {lo : Nat} {e : TypeId} {s : Nat} {A : Option Addr} {n cap : Nat} {zs : List Int} (h : Row w lo e s A n cap zs) : n ≤ cap ∧ cap ≤ maxLen := by
  rcases h.2 with ⟨hv, rfl⟩ | ⟨g, c, cur, hv, _, _, h1, h2, _⟩
  · injection hv with _ _ hc
    subst hc
    exact ⟨Nat.le_refl _, by simp⟩
  · injection hv with _ _ hc
    subst hc
    exact ⟨h1, h2⟩

/-- Only the row at A (and new memory) has been written. -/
def Wrote (w w' : World) (A : Option Addr) : Prop := w.grownBy w' (A.map (·.block))
theorem Wrote.size {w w' : World} {A : Option Addr} (h : Wrote w w' A) : w.heap.size ≤ w'.heap.size := World.grownBy.size h
/-- A row made before the written one. -/
theorem Row.wrote {w w' : World} {lo : Nat} {e : TypeId} {s : Nat} {A B : Option Addr} {n cap : Nat} {zs : List Int} (h : Row w lo e s A n cap zs) (hw : Wrote w w' B) (hne : ∀ a b, A = some a → B = some b → a.block ≠ b.block) : Row w' lo e s A n cap zs :=
  h.keep fun a ha => World.grownBy.block hw _ (h.lt a ha) (by
    cases B with
    | none => simp
    | some b => simp only [Option.map_some, ne_eq, Option.some.injEq]; exact hne a b ha rfl)
theorem Sl.wrote {w w' : World} {s : Nat} {A B : Option Addr} {n : Nat} {zs : List Int} (h : Sl w s A n zs) (hw : Wrote w w' B) (hne : 0 < n → ∀ a b, A = some a → B = some b → a.block ≠ b.block) : Sl w' s A n zs :=
  ⟨h.1, fun hn => by
    obtain ⟨b, off, rfl, hbl, hj⟩ := h.2 hn
    refine ⟨b, off, rfl, Nat.lt_of_lt_of_le hbl hw.size, fun j hjn => ?_⟩
    rw [World.cell?_of_block (World.grownBy.block hw _ hbl (by
      cases B with
      | none => simp
      | some c => simp only [Option.map_some, ne_eq, Option.some.injEq]; exact hne hn _ c rfl rfl))]
    exact hj j hjn⟩
theorem Sl.lt {w : World} {s : Nat} {A : Option Addr} {n : Nat} {zs : List Int} (h : Sl w s A n zs) (hn : 0 < n) : LtB A w.heap.size := fun a ha => by
  obtain ⟨b, off, rfl, hbl, _⟩ := h.2 hn
  obtain rfl := Option.some.inj ha
  exact hbl
/-- Two rows, one made before the other: no block is in both. -/
theorem apart_of {A B : Option Addr} {hi : Nat} (hA : LtB A hi) (hB : ∀ b, B = some b → hi ≤ b.block) : ∀ a b, A = some a → B = some b → a.block ≠ b.block := fun a b ha hb e => by
  have h1 := hA a ha
  have h2 := hB b hb
  omega
theorem apart_symm {A B : Option Addr} (h : ∀ a b, A = some a → B = some b → a.block ≠ b.block) : ∀ a b, B = some a → A = some b → a.block ≠ b.block := fun a b ha hb e => h b a hb ha e.symm
/-- The frame of the whole: a row of the call's own was written. -/
theorem Wrote.below {B : Nat} {a w w' : World} {A : Option Addr} (h : Wrote w w' A) (h1 : Below B a w) (hB : B ≤ w.heap.size) (hA : ∀ x, A = some x → B ≤ x.block) : Below B a w' :=
  h1.grown h hB (fun k hk => by
    cases A with
    | none => simp at hk
    | some x => simp only [Option.map_some, Option.some.injEq] at hk; subst hk; exact hA x rfl)

theorem wrote_set {w w' : World} {a : Addr} (h : Wrote w w' (some a)) {p : Addr} (hp : p.block = a.block) (u : Value) : Wrote w (w'.setCell p u) (some a) := by
  refine ⟨h.os, h.tape, h.output, by simpa [World.setCell] using World.grownBy.size h, fun k hk hne => ?_⟩
  rw [Below.heap_setCell w' p u k (by
    rintro rfl
    exact hne (by simp [hp]))]
  exact World.grownBy.block h k hk hne

/-- The frames of two calls, one behind the other. -/
theorem bthen {w a b : World} (h1 : Below w.heap.size w a) (h2 : Below a.heap.size a b) : Below w.heap.size w b := bstep h2 h1 h1.size

/-- A block known whole. -/
def Blk (w : World) (g : Nat) (e : TypeId) (cs : Array Value) : Prop := w.heap[g]? = some (.cells cs e (0, 0))
theorem Blk.lt {w : World} {g : Nat} {e : TypeId} {cs : Array Value} (h : Blk w g e cs) : g < w.heap.size := (Array.getElem?_eq_some_iff.1 h).1
theorem Blk.cell {w : World} {g : Nat} {e : TypeId} {cs : Array Value} (h : Blk w g e cs) (i : Nat) : w.cell? ⟨g, i, none⟩ = cs[i]? := cell_of_row w g i cs e (0, 0) h
theorem Blk.has {w : World} {g : Nat} {e : TypeId} {cs : Array Value} (h : Blk w g e cs) {i : Nat} (hi : i < cs.size) : ∃ c, w.cell? ⟨g, i, none⟩ = some c := ⟨cs[i], by rw [h.cell]; exact Array.getElem?_eq_getElem hi⟩
theorem Blk.frozen {w : World} {g : Nat} {e : TypeId} {cs : Array Value} (h : Blk w g e cs) (i : Nat) : w.frozen? ⟨g, i, none⟩ = false := by
  unfold Blk at h
  simp [World.frozen?, h]
theorem Blk.new (w : World) (e : TypeId) (cs : Array Value) : Blk (w.alloc (.cells cs e)) w.heap.size e cs := heap_alloc_new w _
theorem Blk.alloc {w : World} {g : Nat} {e : TypeId} {cs : Array Value} (h : Blk w g e cs) (o : Obj) : Blk (w.alloc o) g e cs := (Below.heap_alloc w o g h.lt).trans h
theorem Blk.drew {w : World} {g : Nat} {e : TypeId} {cs : Array Value} (h : Blk w g e cs) : Blk w.drew g e cs := h
theorem Blk.set_ {w : World} {g : Nat} {e : TypeId} {cs : Array Value} (h : Blk w g e cs) (i : Nat) (u : Value) : Blk (w.setCell ⟨g, i, none⟩ u) g e (cs.setIfInBounds i u) := by
  unfold Blk at h ⊢
  simp [World.setCell, Array.getElem?_modify, h]
theorem Blk.far {w : World} {g : Nat} {e : TypeId} {cs : Array Value} (h : Blk w g e cs) {p : Addr} (hp : g ≠ p.block) (u : Value) : Blk (w.setCell p u) g e cs := (Below.heap_setCell w p u g hp).trans h
theorem Blk.below {w w' : World} {g : Nat} {e : TypeId} {cs : Array Value} (h : Blk w g e cs) (hb : Below w.heap.size w w') : Blk w' g e cs := (hb.block g h.lt).trans h
theorem Blk.row {w : World} {g lo n : Nat} {e : TypeId} {s : Nat} {cs : Array Value} {zs : List Int} (h : Blk w g e cs) (hlo : lo ≤ g) (hn : n ≤ maxLen) (hcs : cs.size = n * s) (hz : zs.length = n * s) (hj : ∀ j, j < n * s → cs[j]? = some (.int .i64 (zs.getD j 0))) :
    Row w lo e s (some ⟨g, 0, none⟩) n n zs := by
  refine ⟨by rw [ints_length]; exact hz, .inr ⟨g, n, cs, rfl, hlo, h, Nat.le_refl _, hn, hcs, ?_⟩⟩
  rw [List.take_of_length_le (by simp; omega)]
  apply List.ext_getElem?
  intro j
  by_cases hjn : j < n * s
  · rw [ints_get zs j (by omega), ← hj j hjn]; simp
  · rw [List.getElem?_eq_none (by simp; omega), List.getElem?_eq_none (by rw [ints_length]; omega)]
/-- A row's block. -/
theorem Row.blk {w : World} {lo : Nat} {e : TypeId} {s : Nat} {A : Option Addr} {n cap : Nat} {zs : List Int} (h : Row w lo e s A n cap zs) (hn : 0 < n) :
    ∃ g cs, A = some ⟨g, 0, none⟩ ∧ lo ≤ g ∧ Blk w g e cs ∧ n ≤ cap ∧ cap ≤ maxLen ∧ cs.size = cap * s ∧ ∀ j, j < n * s → cs[j]? = some (.int .i64 (zs.getD j 0)) := by
  have hl := h.len
  rcases h.2 with ⟨_, h0⟩ | ⟨g, c, cur, hv, hb, hg, h1, h2, hcs, ht⟩
  · omega
  · obtain ⟨rfl, rfl⟩ : A = some ⟨g, 0, none⟩ ∧ cap = c := by
      injection hv with h1 _ h3
      exact ⟨h1, h3⟩
    refine ⟨g, cur, rfl, hb, hg, h1, h2, hcs, fun j hj => ?_⟩
    have := ints_get zs j (by omega)
    rw [← ht, List.getElem?_take, if_pos hj] at this
    simpa using this
/-- Back: the block with other cells. -/
theorem Row.of_blk {w : World} {g lo n cap : Nat} {e : TypeId} {s : Nat} {cs : Array Value} {zs : List Int} (h : Blk w g e cs) (hlo : lo ≤ g) (hn : n ≤ cap) (hc : cap ≤ maxLen) (hcs : cs.size = cap * s) (hz : zs.length = n * s) (hj : ∀ j, j < n * s → cs[j]? = some (.int .i64 (zs.getD j 0))) :
    Row w lo e s (some ⟨g, 0, none⟩) n cap zs := by
  have hle : n * s ≤ cap * s := Nat.mul_le_mul_right _ hn
  refine ⟨by rw [ints_length]; exact hz, .inr ⟨g, cap, cs, rfl, hlo, h, hn, hc, hcs, ?_⟩⟩
  apply List.ext_getElem?
  intro j
  rw [List.getElem?_take]
  by_cases hjn : j < n * s
  · rw [if_pos hjn, ints_get zs j (by omega), ← hj j hjn]; simp
  · rw [if_neg hjn, List.getElem?_eq_none (by rw [ints_length]; omega)]

/-- What a function that hands back a slice of flat elements leaves: a row of its own, old memory as it was. -/
def RetRow (w : World) (E s n : Nat) (zs : List Int) (e : Ending) (w' : World) : Prop := ∃ A cap, e = .returned (.slice A n cap) ∧ Row w' w.heap.size E s A n cap zs ∧ Below w.heap.size w w'

theorem RetRow.mk {w w' : World} {E s n : Nat} {zs : List Int} {A : Option Addr} {cap : Nat} (h : Row w' w.heap.size E s A n cap zs) (hb : Below w.heap.size w w') : RetRow w E s n zs (.returned (.slice A n cap)) w' := ⟨A, cap, rfl, h, hb⟩

/-- 'make([]T, n)' at a length of at most 2^20, the elements of at most 4096 bytes. -/
theorem make_flat {P : Program} (t e : TypeId) (z : Value) (s bytes : Nat) (ht : P.underlying t = some (.slice e)) (hinfo : (P.info? e).map (fun i => (i.zero, i.size, i.bytes)) = some (some z, s, bytes)) (hb : bytes ≤ 4096) (n : Nat) (hn : n ≤ 1048576) (w : World) :
    (Instr.makeSlice t (.int .i64 (n : Int)) (.int .i64 (n : Int))).run P w = .ok (.slice (some ⟨w.heap.size, 0, none⟩) n n) (w.alloc (.cells (madeCells z.cells (n * s)) e)) := by
  obtain ⟨i, hi, hz, rfl, hby⟩ := info_parts hinfo
  have hle : bytes * n ≤ 4096 * 1048576 := Nat.mul_le_mul hb hn
  have hle' : (i.bytes : Int) * (n : Int) ≤ 281474976710656 := by
    rw [hby, ← Int.natCast_mul]
    omega
  have h := run_make (P := P) w t e i z ht hi hz .i64 .i64 n n (by omega) (Int.le_refl _) hle' (by omega)
  simpa using h

/-- Equal lists, as a Bool that the walk does not open. -/
def eqL (a b : List Int) : Bool := decide (a = b)
theorem eqL_true {a b : List Int} (h : eqL a b = true) : a = b := by simpa [eqL] using h
theorem eqL_false {a b : List Int} (h : ¬ eqL a b = true) : a ≠ b := by simpa [eqL] using h
theorem eqL_self (a : List Int) : eqL a a = true := by simp [eqL]
theorem eqL_ne {a b : List Int} (h : a ≠ b) : eqL a b = false := by simpa [eqL] using h

/-- The numbers k, k + 1, .. (m of them): what the law's marks lay. -/
def marks (k : Int) (m : Nat) : List Int := (List.range m).map fun (j : Nat) => k + (j : Int)
theorem marks_length (k : Int) (m : Nat) : (marks k m).length = m := by simp [marks]
theorem marks_getD (k : Int) (m j : Nat) (h : j < m) : (marks k m).getD j 0 = k + (j : Int) := by simp [marks, List.getD, h]

/-- What mark leaves. -/
def RetMark (w : World) (lo E s : Nat) (A : Option Addr) (n cap : Nat) (k : Int) (e : Ending) (w' : World) : Prop := e = .returned (.int .i64 (k + (n * s : Nat))) ∧ Row w' lo E s A n cap (marks k (n * s)) ∧ Wrote w w' A
theorem RetMark.mk {w w' : World} {lo E s : Nat} {A : Option Addr} {n cap : Nat} {k k' : Int} (hk : k' = k + (n * s : Nat)) (h : Row w' lo E s A n cap (marks k (n * s))) (hw : Wrote w w' A) : RetMark w lo E s A n cap k (.returned (.int .i64 k')) w' := ⟨by rw [hk], h, hw⟩

theorem list_ext_getD {a b : List Int} (hl : a.length = b.length) (h : ∀ j, j < a.length → a.getD j 0 = b.getD j 0) : a = b := by
  apply List.ext_getElem hl
  intro j h1 h2
  have := h j h1
  simpa [List.getD, h1, h2] using this

end Go.Proofs.YtokklkmibjpjnaaGreat
namespace Go.Proofs.YtokklkmibjpjnaaGreat
set_option linter.unusedSimpArgs false
set_option linter.unusedVariables false
attribute [local go_sem] n_lt2 n_lt3 n_lt4 n_le2 n_le3
open Go.RowKit
attribute [local go_sem] Ext.cell Ext.frozen
set_option maxRecDepth 100000 in
set_option maxHeartbeats 400000 in
theorem toPair_any (a0 a1 : Int) (w : World) :
    Calls Tryz.prog 72 #[.agg #[.int .i64 a0, .int .i64 a1]] w fun e' w' => e' = .returned (.agg #[.int .i64 a0, .int .i64 a1]) ∧ Below w.heap.size w w' := by
  go_enter Tryz.func72, Tryz.ntmps72
  go_wp2
  refine bodyPost_ret (v := .agg #[.int .i64 a0, .int .i64 a1]) (by simp [results, Tryz.results72, go_sem]) rfl ⟨rfl, ?_⟩
  (repeat' (first | (with_reducible exact Below.refl _ _) | (with_reducible assumption) | (with_reducible refine Below.alloc ?_ ?_ _) | (with_reducible refine Below.drew ?_) | (with_reducible refine Below.setCell ?_ ?_ _) | (with_reducible refine bstep (by assumption) ?_ ?_) | (with_reducible exact Nat.le_refl _) | omega | (simp [*]; done) | (simp [*]; omega)))
set_option maxHeartbeats 1000000 in
theorem eqPair_any (a0 a1 b0 b1 : Int) (w : World) :
    Calls Tryz.prog 83 #[.agg #[.int .i64 a0, .int .i64 a1], .agg #[.int .i64 b0, .int .i64 b1]] w fun e' w' => e' = .returned (.bool (eqL [a0, a1] [b0, b1])) ∧ Below w.heap.size w w' := by
  go_enter Tryz.func83, Tryz.ntmps83
  go_wp2
  all_goals (go_ret; exact ⟨ret_bool (by unfold eqL; (first | rfl | (simp [*]; done) | (subst_vars; simp [*]; done) | (simp_all; done))), by (repeat' (first | (with_reducible exact Below.refl _ _) | (with_reducible assumption) | (with_reducible refine Below.alloc ?_ ?_ _) | (with_reducible refine Below.drew ?_) | (with_reducible refine Below.setCell ?_ ?_ _) | (with_reducible refine bstep (by assumption) ?_ ?_) | (with_reducible exact Nat.le_refl _) | omega | (simp [*]; done) | (simp [*]; omega)))⟩)

theorem szPairS_yes (A : Option Addr) (n cap : Nat) (left : Int) (w : World) (hn : (n : Int) ≤ left) (hl : left ≤ 1048576) :
    Calls Tryz.prog 25 #[.slice A n cap, .int .i64 left] w fun e w' => e = .returned (.int .i64 (left - n)) ∧ w = w' := by
  go_enter Tryz.func25, Tryz.ntmps25
  go_wp2
  go_ret
  exact ⟨rfl, rfl⟩
theorem szPairS_no (A : Option Addr) (n cap : Nat) (left : Int) (w : World) (hn : left < (n : Int)) (h0 : 0 ≤ left) (hl : left ≤ 1048576) (hm : n ≤ maxLen) :
    Calls Tryz.prog 25 #[.slice A n cap, .int .i64 left] w fun e w' => e = .returned (.int .i64 (-1)) ∧ w = w' := by
  unfold maxLen at hm
  go_enter Tryz.func25, Tryz.ntmps25
  go_wp2
  go_ret
  exact ⟨rfl, rfl⟩

theorem info_Pair : (Tryz.prog.info? 106).map (fun i => (i.zero, i.size, i.bytes)) = some (some (.agg #[.int .i64 0, .int .i64 0]), 2, 16) := by kernel_rfl

set_option maxHeartbeats 1600000 in
theorem toPairS_any (A : Option Addr) (n cap : Nat) (zs : List Int) (w : World) (hS : Sl w 2 A n zs) (hn : n ≤ 1048576) :
    Calls Tryz.prog 36 #[.slice A n cap] w (RetRow w 106 2 n zs) := by
  have hmk := fun W => make_flat (P := Tryz.prog) 33 106 (.agg #[.int .i64 0, .int .i64 0]) 2 16 Tryz.underlying33 info_Pair (by decide) n hn W
  have HS := Lib.hid hS
  clear hS
  go_enter Tryz.func36, Tryz.ntmps36
  go_wp2
  clear hmk
  go_loopw [4] (fun i wr => ∃ (k : Nat) (cs : Array Value), k ≤ n ∧ i = .int .i64 k ∧ Below w.heap.size w wr ∧ Blk wr w.heap.size 106 cs ∧ Hid (cs.size = n * 2) ∧ Hid (∀ j, j < k * 2 → cs[j]? = some (.int .i64 (zs.getD j 0)))) (fun i _ => n - (intOf i).toNat)
  case atStart => exact ⟨0, _, Nat.zero_le _, rfl, (Below.refl _ _).alloc (Nat.le_refl _) _, Blk.new _ _ _, by simp [size_madeCells, Hid], fun j hj => absurd hj (by omega)⟩
  case round =>
    obtain ⟨k, cs, hk, rfl, hbl, hblk, hcs, hall⟩ := hrel
    by_cases hlt : k < n
    · obtain ⟨b, off, rfl, hb, hcell⟩ := HS.out.at_ (by omega)
      have h0 := hcell (k * 2) (by omega)
      have h1 := hcell (k * 2 + 1) (by omega)
      rw [← hbl.cell (by exact hb)] at h0 h1
      simp only [← Nat.add_assoc] at h0 h1
      clear hcell
      generalize hx0 : zs.getD (k * 2) 0 = x0 at h0
      generalize hx1 : zs.getD (k * 2 + 1) 0 = x1 at h1
      have HX := Lib.hid (And.intro hx0 hx1)
      clear hx0 hx1
      have hg := hblk.lt
      have hbr : b < wr.heap.size := Nat.lt_of_lt_of_le hb hbl.size
      obtain ⟨c0, g0⟩ := hblk.has (i := k * 2) (by have := hcs.out; omega)
      obtain ⟨c1, g1⟩ := hblk.has (i := k * 2 + 1) (by have := hcs.out; omega)
      have f0 := hblk.frozen (k * 2)
      have f1 := hblk.frozen (k * 2 + 1)
      go_wp2_with ((go_at_call 72; refine (toPair_any _ _ _).mono ?_; rintro e w1 ⟨rfl, hb'⟩; (first | (have hb2 := bstep hb' hb hb.size; clear hb' hcb hfb hz1 hz2 hz3 hz4 hb; have hb := hb2; clear hb2) | (have hb := hb'; clear hb')); obtain ⟨hcb, hfb, hz1, hz2, hz3, hz4⟩ := bcell hb; (try simp only [World.size_alloc, World.size_setCell, World.size_drew, Nat.lt_add_one_iff, Nat.add_assoc, Nat.reduceAdd] at hz1 hz2 hz3 hz4)))
      refine ⟨⟨k + 1, _, by omega, by go_num, (((bstep hb hbl hbl.size).setCell (by simp) _).setCell (by simp) _), (((hblk.below hb).set_ _ _).set_ _ _), ?_, ?_⟩, by simp [intOf]; omega⟩
      · show Array.size _ = _
        simp only [Array.size_setIfInBounds]
        exact hcs.out
      · intro j hj
        have hcsz := hcs.out
        have hxy := HX.out
        simp only [Array.getElem?_setIfInBounds, Array.size_setIfInBounds]
        rcases (by omega : j < k * 2 ∨ j = k * 2 ∨ j = k * 2 + 1) with h | h | h
        · rw [if_neg (by omega), if_neg (by omega)]
          exact hall.out j h
        · rw [if_neg (by omega), if_pos (by omega), if_pos (by omega), h, hxy.1]
        · rw [if_pos (by omega), if_pos (by omega), h, hxy.2]
    · have hkn : k = n := by omega
      subst hkn
      go_wp2
      go_ret
      exact RetRow.mk (hblk.row (Nat.le_refl _) (by simp [maxLen]; omega) hcs.out HS.out.len (by simpa using hall.out)) hbl

set_option maxHeartbeats 1600000 in
theorem eqPairS_any (A B : Option Addr) (n m cap cap' : Nat) (zs ys : List Int) (w : World) (hS : Sl w 2 A n zs) (hT : Sl w 2 B m ys) (hn : n ≤ maxLen) (hm : m ≤ maxLen) :
    Calls Tryz.prog 44 #[.slice A n cap, .slice B m cap'] w fun e w' => e = .returned (.bool (eqL zs ys)) ∧ Below w.heap.size w w' := by
  unfold maxLen at hn hm
  by_cases hnm : n = m
  · subst hnm
    have HS := Lib.hid hS
    have HT := Lib.hid hT
    clear hS hT
    go_enter Tryz.func44, Tryz.ntmps44
    go_wp2
    go_loopw [5] (fun i wr => ∃ (k : Nat), k ≤ n ∧ i = .int .i64 k ∧ Below w.heap.size w wr ∧ Hid (∀ j, j < k * 2 → zs.getD j 0 = ys.getD j 0)) (fun i _ => n - (intOf i).toNat)
    case atStart => exact ⟨0, Nat.zero_le _, rfl, Below.refl _ _, fun j hj => absurd hj (by omega)⟩
    case round =>
      obtain ⟨k, hk, rfl, hbl, hall⟩ := hrel
      by_cases hlt : k < n
      · obtain ⟨b, off, rfl, hb, hcell⟩ := HS.out.at_ (by omega)
        obtain ⟨b', off', rfl, hb', hcell'⟩ := HT.out.at_ (by omega)
        have h0 := hcell (k * 2) (by omega)
        have h1 := hcell (k * 2 + 1) (by omega)
        have p0 := hcell' (k * 2) (by omega)
        have p1 := hcell' (k * 2 + 1) (by omega)
        rw [← hbl.cell (by exact hb)] at h0 h1
        rw [← hbl.cell (by exact hb')] at p0 p1
        simp only [← Nat.add_assoc] at h0 h1 p0 p1
        clear hcell hcell'
        generalize hx0 : zs.getD (k * 2) 0 = x0 at h0
        generalize hx1 : zs.getD (k * 2 + 1) 0 = x1 at h1
        generalize hy0 : ys.getD (k * 2) 0 = y0 at p0
        generalize hy1 : ys.getD (k * 2 + 1) 0 = y1 at p1
        have HX := Lib.hid (And.intro (And.intro hx0 hx1) (And.intro hy0 hy1))
        clear hx0 hy0 hx1 hy1
        have hbr : b < wr.heap.size := Nat.lt_of_lt_of_le hb hbl.size
        have hbr' : b' < wr.heap.size := Nat.lt_of_lt_of_le hb' hbl.size
        rcases Bool.eq_false_or_eq_true (eqL [x0, x1] [y0, y1]) with hq | hq
        · go_wp2
          ((refine wp_region_ext (by kernel_rfl) (by kernel_rfl) ?_); (repeat (any_goals (first | go_big_quiet_step ((go_at_call 83; exact quiet_ext (eqPair_any _ _ _ _ _))) | (refine wpQuiet_step (fun K hK => ?_); go_simp; split <;> (refine hK _ ?_; clear hK K)) | quiet_step ((go_at_call 83; exact quiet_ext (eqPair_any _ _ _ _ _)))))); (all_goals (refine wpQuiet_nil ?_; rintro _ ⟨z, rfl⟩; have hb' := z.h; generalize z.w = w1 at hb' ⊢; clear z; (first | (have hb2 := bstep hb' hb hb.size; clear hb' hcb hfb hz1 hz2 hz3 hz4 hb; have hb := hb2; clear hb2) | (have hb := hb'; clear hb')); obtain ⟨hcb, hfb, hz1, hz2, hz3, hz4⟩ := bcell hb; (try simp only [World.size_alloc, World.size_setCell, World.size_drew, Nat.lt_add_one_iff, Nat.add_assoc, Nat.reduceAdd] at hz1 hz2 hz3 hz4))))
          go_wp2
          refine ⟨⟨k + 1, by omega, by go_num, bstep hb hbl hbl.size, ?_⟩, by simp [intOf]; omega⟩
          intro j hj
          have hxy := HX.out
          have he := eqL_true hq
          simp only [List.cons.injEq, and_true] at he
          rcases (by omega : j < k * 2 ∨ j = k * 2 ∨ j = k * 2 + 1) with h | h | h
          · exact hall.out j h
          · rw [h, hxy.1.1, hxy.2.1, he.1]
          · rw [h, hxy.1.2, hxy.2.2, he.2]
        · go_wp2
          ((refine wp_region_ext (by kernel_rfl) (by kernel_rfl) ?_); (repeat (any_goals (first | go_big_quiet_step ((go_at_call 83; exact quiet_ext (eqPair_any _ _ _ _ _))) | (refine wpQuiet_step (fun K hK => ?_); go_simp; split <;> (refine hK _ ?_; clear hK K)) | quiet_step ((go_at_call 83; exact quiet_ext (eqPair_any _ _ _ _ _)))))); (all_goals (refine wpQuiet_nil ?_; rintro _ ⟨z, rfl⟩; have hb' := z.h; generalize z.w = w1 at hb' ⊢; clear z; (first | (have hb2 := bstep hb' hb hb.size; clear hb' hcb hfb hz1 hz2 hz3 hz4 hb; have hb := hb2; clear hb2) | (have hb := hb'; clear hb')); obtain ⟨hcb, hfb, hz1, hz2, hz3, hz4⟩ := bcell hb; (try simp only [World.size_alloc, World.size_setCell, World.size_drew, Nat.lt_add_one_iff, Nat.add_assoc, Nat.reduceAdd] at hz1 hz2 hz3 hz4))))
          go_wp2
          go_ret
          refine ⟨ret_bool (eqL_ne ?_).symm, bstep hb hbl hbl.size⟩
          rintro rfl
          have hxy := HX.out
          exact eqL_false (by rw [hq]; decide) (by simp only [List.cons.injEq, and_true]; exact ⟨hxy.1.1.symm.trans hxy.2.1, hxy.1.2.symm.trans hxy.2.2⟩)
      · have hkn : k = n := by omega
        subst hkn
        go_wp2
        go_ret
        have hzy : zs = ys := list_ext_getD (by rw [HS.out.len, HT.out.len]) (fun j hj => hall.out j (by rw [HS.out.len] at hj; omega))
        exact ⟨ret_bool (by rw [hzy]; exact (eqL_self _).symm), hbl⟩
  · have hne : ¬ (n : Int) = (m : Int) := by omega
    have hz : eqL zs ys = false := by
      refine eqL_ne ?_
      rintro rfl
      have h1 := hS.len
      have h2 := hT.len
      omega
    rw [hz]
    clear hz hS hT
    go_enter Tryz.func44, Tryz.ntmps44
    go_wp2
    go_ret
    exact ⟨rfl, Below.refl _ _⟩


set_option maxHeartbeats 1600000 in
theorem markPairS_any (lo : Nat) (A : Option Addr) (n cap : Nat) (zs : List Int) (k0 : Int) (w : World) (hR : Row w lo 106 2 A n cap zs) (hn : n ≤ 1048576) (hk0 : 0 ≤ k0) (hk1 : k0 ≤ 1073741824) :
    Calls Tryz.prog 47 #[.slice A n cap, .int .i64 k0] w (RetMark w lo 106 2 A n cap k0) := by
  by_cases hz : n = 0
  · subst hz
    have hR' : Row w lo 106 2 A 0 cap (marks k0 (0 * 2)) := by
      have hl := hR.len
      have : zs = [] := List.eq_nil_of_length_eq_zero (by omega)
      subst this
      exact hR
    have HR := Lib.hid hR'
    clear hR hR'
    go_enter Tryz.func47, Tryz.ntmps47
    go_wp2
    go_loop [1, 5] (fun q i => i = .int .i64 0 ∧ q = .int .i64 k0) (fun _ _ => 0)
    case atStart => exact ⟨rfl, rfl⟩
    case round =>
      obtain ⟨rfl, rfl⟩ := hrel
      go_wp2
      go_ret
      exact RetMark.mk (by simp) HR.out (World.grownBy.refl _ _)
  · obtain ⟨g, cs, rfl, hlo, hblk, hnc, hcm, hcs, _⟩ := hR.blk (by omega)
    have HC := Lib.hid (And.intro hcs (And.intro hnc hcm))
    clear hR hcs hcm hz
    have hnc' : (n : Int) ≤ (cap : Int) := by omega
    go_enter Tryz.func47, Tryz.ntmps47
    go_wp2
    go_loopw [1, 5] (fun q i wr => ∃ (k : Nat) (cs : Array Value), k ≤ n ∧ i = .int .i64 k ∧ q = .int .i64 (k0 + (k * 2 : Nat)) ∧ Hid (Wrote w wr (some ⟨g, 0, none⟩)) ∧ Blk wr g 106 cs ∧ Hid (cs.size = cap * 2) ∧ Hid (∀ j, j < k * 2 → cs[j]? = some (.int .i64 (k0 + (j : Int))))) (fun _ i _ => n - (intOf i).toNat)
    case atStart => exact ⟨0, cs, Nat.zero_le _, rfl, by simp, World.grownBy.refl _ _, hblk, HC.out.1, fun j hj => absurd hj (by omega)⟩
    case round =>
      obtain ⟨k, cs', hk, rfl, rfl, hwr, hblk', hcs', hall⟩ := hrel
      by_cases hlt : k < n
      · have _hg := hlt
        obtain ⟨c0, g0⟩ := hblk'.has (i := k * 2) (by have := hcs'.out; have := HC.out.2.1; omega)
        obtain ⟨c1, g1⟩ := hblk'.has (i := k * 2 + 1) (by have := hcs'.out; have := HC.out.2.1; omega)
        have f0 := hblk'.frozen (k * 2)
        have f1 := hblk'.frozen (k * 2 + 1)
        go_wp2
        refine ⟨⟨k + 1, _, by omega, by go_num, congrArg (Value.int .i64) (by omega), ?_, ((hblk'.set_ _ _).set_ _ _), ?_, ?_⟩, by simp [intOf]; omega⟩
        · exact (wrote_set (p := ⟨g, k * 2 + 1, none⟩) (wrote_set (p := ⟨g, k * 2, none⟩) hwr.out rfl _) rfl _)
        · show Array.size _ = _
          simp only [Array.size_setIfInBounds]
          exact hcs'.out
        · intro j hj
          have hcsz := hcs'.out
          have hnc := HC.out.2.1
          simp only [Array.getElem?_setIfInBounds, Array.size_setIfInBounds]
          rcases (by omega : j < k * 2 ∨ j = k * 2 ∨ j = k * 2 + 1) with h | h | h
          · rw [if_neg (by omega), if_neg (by omega)]
            exact hall.out j h
          · rw [if_neg (by omega), if_pos (by omega), if_pos (by omega), h]
            try exact congrArg (fun z => some (Value.int .i64 z)) (by omega)
          · rw [if_pos (by omega), if_pos (by omega), h]
            try exact congrArg (fun z => some (Value.int .i64 z)) (by omega)
      · have hkn : k = n := by omega
        subst hkn
        go_wp2
        go_ret
        refine RetMark.mk (by omega) (Row.of_blk hblk' hlo HC.out.2.1 HC.out.2.2 hcs'.out (marks_length _ _) (fun j hj => ?_)) hwr.out
        rw [marks_getD _ _ _ hj]
        exact hall.out j (by omega)

set_option maxHeartbeats 1600000 in
theorem heldPairS_any (A : Option Addr) (n cap : Nat) (k0 : Int) (w : World) (hS : Sl w 2 A n (marks k0 (n * 2))) (hn : n ≤ 1048576) (hk0 : 0 ≤ k0) (hk1 : k0 ≤ 1073741824) :
    Calls Tryz.prog 49 #[.slice A n cap, .int .i64 k0] w fun e w' => e = .returned (.int .i64 (k0 + (n * 2 : Nat))) ∧ w = w' := by
  have HS := Lib.hid hS
  clear hS
  go_enter Tryz.func49, Tryz.ntmps49
  go_wp2
  go_loop [1, 5] (fun q i => ∃ (k : Nat), k ≤ n ∧ i = .int .i64 k ∧ q = .int .i64 (k0 + (k * 2 : Nat))) (fun _ i => n - (intOf i).toNat)
  case atStart => exact ⟨0, Nat.zero_le _, rfl, by simp⟩
  case round =>
    obtain ⟨k, hk, rfl, rfl⟩ := hrel
    by_cases hlt : k < n
    · obtain ⟨b, off, rfl, hb, hcell⟩ := HS.out.at_ (by omega)
      have h0 := hcell (k * 2) (by omega)
      have h1 := hcell (k * 2 + 1) (by omega)
      rw [marks_getD _ _ _ (by omega)] at h0 h1
      simp only [← Nat.add_assoc] at h0 h1
      clear hcell
      go_wp2
      exact ⟨⟨k + 1, by omega, by go_num, congrArg (Value.int .i64) (by omega)⟩, by simp [intOf]; omega⟩
    · have hkn : k = n := by omega
      subst hkn
      go_wp2
      go_ret
      exact ⟨ret_int (by omega), rfl⟩
end Go.Proofs.YtokklkmibjpjnaaGreat
namespace Go.Proofs.YtokklkmibjpjnaaGreat
set_option linter.unusedSimpArgs false
set_option linter.unusedVariables false
attribute [local go_sem] n_lt2 n_lt3 n_lt4 n_le2 n_le3
open Go.RowKit
attribute [local go_sem] Ext.cell Ext.frozen
set_option maxRecDepth 100000 in
set_option maxHeartbeats 400000 in
theorem toJob_any (a0 a1 a2 a3 a4 : Int) (w : World) :
    Calls Tryz.prog 73 #[.agg #[.int .i64 a0, .int .i64 a1, .int .i64 a2, .int .i64 a3, .int .i64 a4]] w fun e' w' => e' = .returned (.agg #[.int .i64 a0, .int .i64 a1, .int .i64 a2, .int .i64 a3, .int .i64 a4]) ∧ Below w.heap.size w w' := by
  go_enter Tryz.func73, Tryz.ntmps73
  go_wp2
  refine bodyPost_ret (v := .agg #[.int .i64 a0, .int .i64 a1, .int .i64 a2, .int .i64 a3, .int .i64 a4]) (by simp [results, Tryz.results73, go_sem]) rfl ⟨rfl, ?_⟩
  (repeat' (first | (with_reducible exact Below.refl _ _) | (with_reducible assumption) | (with_reducible refine Below.alloc ?_ ?_ _) | (with_reducible refine Below.drew ?_) | (with_reducible refine Below.setCell ?_ ?_ _) | (with_reducible refine bstep (by assumption) ?_ ?_) | (with_reducible exact Nat.le_refl _) | omega | (simp [*]; done) | (simp [*]; omega)))
set_option maxHeartbeats 1000000 in
theorem eqJob_any (a0 a1 a2 a3 a4 b0 b1 b2 b3 b4 : Int) (w : World) :
    Calls Tryz.prog 84 #[.agg #[.int .i64 a0, .int .i64 a1, .int .i64 a2, .int .i64 a3, .int .i64 a4], .agg #[.int .i64 b0, .int .i64 b1, .int .i64 b2, .int .i64 b3, .int .i64 b4]] w fun e' w' => e' = .returned (.bool (eqL [a0, a1, a2, a3, a4] [b0, b1, b2, b3, b4])) ∧ Below w.heap.size w w' := by
  go_enter Tryz.func84, Tryz.ntmps84
  go_wp2
  all_goals (go_ret; exact ⟨ret_bool (by unfold eqL; (first | rfl | (simp [*]; done) | (subst_vars; simp [*]; done) | (simp_all; done))), by (repeat' (first | (with_reducible exact Below.refl _ _) | (with_reducible assumption) | (with_reducible refine Below.alloc ?_ ?_ _) | (with_reducible refine Below.drew ?_) | (with_reducible refine Below.setCell ?_ ?_ _) | (with_reducible refine bstep (by assumption) ?_ ?_) | (with_reducible exact Nat.le_refl _) | omega | (simp [*]; done) | (simp [*]; omega)))⟩)

theorem szJobS_yes (A : Option Addr) (n cap : Nat) (left : Int) (w : World) (hn : (n : Int) ≤ left) (hl : left ≤ 1048576) :
    Calls Tryz.prog 26 #[.slice A n cap, .int .i64 left] w fun e w' => e = .returned (.int .i64 (left - n)) ∧ w = w' := by
  go_enter Tryz.func26, Tryz.ntmps26
  go_wp2
  go_ret
  exact ⟨rfl, rfl⟩
theorem szJobS_no (A : Option Addr) (n cap : Nat) (left : Int) (w : World) (hn : left < (n : Int)) (h0 : 0 ≤ left) (hl : left ≤ 1048576) (hm : n ≤ maxLen) :
    Calls Tryz.prog 26 #[.slice A n cap, .int .i64 left] w fun e w' => e = .returned (.int .i64 (-1)) ∧ w = w' := by
  unfold maxLen at hm
  go_enter Tryz.func26, Tryz.ntmps26
  go_wp2
  go_ret
  exact ⟨rfl, rfl⟩

theorem info_Job : (Tryz.prog.info? 71).map (fun i => (i.zero, i.size, i.bytes)) = some (some (.agg #[.int .i64 0, .int .i64 0, .int .i64 0, .int .i64 0, .int .i64 0]), 5, 40) := by kernel_rfl

set_option maxHeartbeats 1600000 in
theorem toJobS_any (A : Option Addr) (n cap : Nat) (zs : List Int) (w : World) (hS : Sl w 5 A n zs) (hn : n ≤ 1048576) :
    Calls Tryz.prog 37 #[.slice A n cap] w (RetRow w 71 5 n zs) := by
  have hmk := fun W => make_flat (P := Tryz.prog) 34 71 (.agg #[.int .i64 0, .int .i64 0, .int .i64 0, .int .i64 0, .int .i64 0]) 5 40 Tryz.underlying34 info_Job (by decide) n hn W
  have HS := Lib.hid hS
  clear hS
  go_enter Tryz.func37, Tryz.ntmps37
  go_wp2
  clear hmk
  go_loopw [4] (fun i wr => ∃ (k : Nat) (cs : Array Value), k ≤ n ∧ i = .int .i64 k ∧ Below w.heap.size w wr ∧ Blk wr w.heap.size 71 cs ∧ Hid (cs.size = n * 5) ∧ Hid (∀ j, j < k * 5 → cs[j]? = some (.int .i64 (zs.getD j 0)))) (fun i _ => n - (intOf i).toNat)
  case atStart => exact ⟨0, _, Nat.zero_le _, rfl, (Below.refl _ _).alloc (Nat.le_refl _) _, Blk.new _ _ _, by simp [size_madeCells, Hid], fun j hj => absurd hj (by omega)⟩
  case round =>
    obtain ⟨k, cs, hk, rfl, hbl, hblk, hcs, hall⟩ := hrel
    by_cases hlt : k < n
    · obtain ⟨b, off, rfl, hb, hcell⟩ := HS.out.at_ (by omega)
      have h0 := hcell (k * 5) (by omega)
      have h1 := hcell (k * 5 + 1) (by omega)
      have h2 := hcell (k * 5 + 2) (by omega)
      have h3 := hcell (k * 5 + 3) (by omega)
      have h4 := hcell (k * 5 + 4) (by omega)
      rw [← hbl.cell (by exact hb)] at h0 h1 h2 h3 h4
      simp only [← Nat.add_assoc] at h0 h1 h2 h3 h4
      clear hcell
      generalize hx0 : zs.getD (k * 5) 0 = x0 at h0
      generalize hx1 : zs.getD (k * 5 + 1) 0 = x1 at h1
      generalize hx2 : zs.getD (k * 5 + 2) 0 = x2 at h2
      generalize hx3 : zs.getD (k * 5 + 3) 0 = x3 at h3
      generalize hx4 : zs.getD (k * 5 + 4) 0 = x4 at h4
      have HX := Lib.hid (And.intro hx0 (And.intro hx1 (And.intro hx2 (And.intro hx3 hx4))))
      clear hx0 hx1 hx2 hx3 hx4
      have hg := hblk.lt
      have hbr : b < wr.heap.size := Nat.lt_of_lt_of_le hb hbl.size
      obtain ⟨c0, g0⟩ := hblk.has (i := k * 5) (by have := hcs.out; omega)
      obtain ⟨c1, g1⟩ := hblk.has (i := k * 5 + 1) (by have := hcs.out; omega)
      obtain ⟨c2, g2⟩ := hblk.has (i := k * 5 + 2) (by have := hcs.out; omega)
      obtain ⟨c3, g3⟩ := hblk.has (i := k * 5 + 3) (by have := hcs.out; omega)
      obtain ⟨c4, g4⟩ := hblk.has (i := k * 5 + 4) (by have := hcs.out; omega)
      have f0 := hblk.frozen (k * 5)
      have f1 := hblk.frozen (k * 5 + 1)
      have f2 := hblk.frozen (k * 5 + 2)
      have f3 := hblk.frozen (k * 5 + 3)
      have f4 := hblk.frozen (k * 5 + 4)
      go_wp2_with ((go_at_call 73; refine (toJob_any _ _ _ _ _ _).mono ?_; rintro e w1 ⟨rfl, hb'⟩; (first | (have hb2 := bstep hb' hb hb.size; clear hb' hcb hfb hz1 hz2 hz3 hz4 hb; have hb := hb2; clear hb2) | (have hb := hb'; clear hb')); obtain ⟨hcb, hfb, hz1, hz2, hz3, hz4⟩ := bcell hb; (try simp only [World.size_alloc, World.size_setCell, World.size_drew, Nat.lt_add_one_iff, Nat.add_assoc, Nat.reduceAdd] at hz1 hz2 hz3 hz4)))
      refine ⟨⟨k + 1, _, by omega, by go_num, ((((((bstep hb hbl hbl.size).setCell (by simp) _).setCell (by simp) _).setCell (by simp) _).setCell (by simp) _).setCell (by simp) _), ((((((hblk.below hb).set_ _ _).set_ _ _).set_ _ _).set_ _ _).set_ _ _), ?_, ?_⟩, by simp [intOf]; omega⟩
      · show Array.size _ = _
        simp only [Array.size_setIfInBounds]
        exact hcs.out
      · intro j hj
        have hcsz := hcs.out
        have hxy := HX.out
        simp only [Array.getElem?_setIfInBounds, Array.size_setIfInBounds]
        rcases (by omega : j < k * 5 ∨ j = k * 5 ∨ j = k * 5 + 1 ∨ j = k * 5 + 2 ∨ j = k * 5 + 3 ∨ j = k * 5 + 4) with h | h | h | h | h | h
        · rw [if_neg (by omega), if_neg (by omega), if_neg (by omega), if_neg (by omega), if_neg (by omega)]
          exact hall.out j h
        · rw [if_neg (by omega), if_neg (by omega), if_neg (by omega), if_neg (by omega), if_pos (by omega), if_pos (by omega), h, hxy.1]
        · rw [if_neg (by omega), if_neg (by omega), if_neg (by omega), if_pos (by omega), if_pos (by omega), h, hxy.2.1]
        · rw [if_neg (by omega), if_neg (by omega), if_pos (by omega), if_pos (by omega), h, hxy.2.2.1]
        · rw [if_neg (by omega), if_pos (by omega), if_pos (by omega), h, hxy.2.2.2.1]
        · rw [if_pos (by omega), if_pos (by omega), h, hxy.2.2.2.2]
    · have hkn : k = n := by omega
      subst hkn
      go_wp2
      go_ret
      exact RetRow.mk (hblk.row (Nat.le_refl _) (by simp [maxLen]; omega) hcs.out HS.out.len (by simpa using hall.out)) hbl

set_option maxHeartbeats 1600000 in
theorem eqJobS_any (A B : Option Addr) (n m cap cap' : Nat) (zs ys : List Int) (w : World) (hS : Sl w 5 A n zs) (hT : Sl w 5 B m ys) (hn : n ≤ maxLen) (hm : m ≤ maxLen) :
    Calls Tryz.prog 45 #[.slice A n cap, .slice B m cap'] w fun e w' => e = .returned (.bool (eqL zs ys)) ∧ Below w.heap.size w w' := by
  unfold maxLen at hn hm
  by_cases hnm : n = m
  · subst hnm
    have HS := Lib.hid hS
    have HT := Lib.hid hT
    clear hS hT
    go_enter Tryz.func45, Tryz.ntmps45
    go_wp2
    go_loopw [5] (fun i wr => ∃ (k : Nat), k ≤ n ∧ i = .int .i64 k ∧ Below w.heap.size w wr ∧ Hid (∀ j, j < k * 5 → zs.getD j 0 = ys.getD j 0)) (fun i _ => n - (intOf i).toNat)
    case atStart => exact ⟨0, Nat.zero_le _, rfl, Below.refl _ _, fun j hj => absurd hj (by omega)⟩
    case round =>
      obtain ⟨k, hk, rfl, hbl, hall⟩ := hrel
      by_cases hlt : k < n
      · obtain ⟨b, off, rfl, hb, hcell⟩ := HS.out.at_ (by omega)
        obtain ⟨b', off', rfl, hb', hcell'⟩ := HT.out.at_ (by omega)
        have h0 := hcell (k * 5) (by omega)
        have h1 := hcell (k * 5 + 1) (by omega)
        have h2 := hcell (k * 5 + 2) (by omega)
        have h3 := hcell (k * 5 + 3) (by omega)
        have h4 := hcell (k * 5 + 4) (by omega)
        have p0 := hcell' (k * 5) (by omega)
        have p1 := hcell' (k * 5 + 1) (by omega)
        have p2 := hcell' (k * 5 + 2) (by omega)
        have p3 := hcell' (k * 5 + 3) (by omega)
        have p4 := hcell' (k * 5 + 4) (by omega)
        rw [← hbl.cell (by exact hb)] at h0 h1 h2 h3 h4
        rw [← hbl.cell (by exact hb')] at p0 p1 p2 p3 p4
        simp only [← Nat.add_assoc] at h0 h1 h2 h3 h4 p0 p1 p2 p3 p4
        clear hcell hcell'
        generalize hx0 : zs.getD (k * 5) 0 = x0 at h0
        generalize hx1 : zs.getD (k * 5 + 1) 0 = x1 at h1
        generalize hx2 : zs.getD (k * 5 + 2) 0 = x2 at h2
        generalize hx3 : zs.getD (k * 5 + 3) 0 = x3 at h3
        generalize hx4 : zs.getD (k * 5 + 4) 0 = x4 at h4
        generalize hy0 : ys.getD (k * 5) 0 = y0 at p0
        generalize hy1 : ys.getD (k * 5 + 1) 0 = y1 at p1
        generalize hy2 : ys.getD (k * 5 + 2) 0 = y2 at p2
        generalize hy3 : ys.getD (k * 5 + 3) 0 = y3 at p3
        generalize hy4 : ys.getD (k * 5 + 4) 0 = y4 at p4
        have HX := Lib.hid (And.intro (And.intro hx0 (And.intro hx1 (And.intro hx2 (And.intro hx3 hx4)))) (And.intro hy0 (And.intro hy1 (And.intro hy2 (And.intro hy3 hy4)))))
        clear hx0 hy0 hx1 hy1 hx2 hy2 hx3 hy3 hx4 hy4
        have hbr : b < wr.heap.size := Nat.lt_of_lt_of_le hb hbl.size
        have hbr' : b' < wr.heap.size := Nat.lt_of_lt_of_le hb' hbl.size
        rcases Bool.eq_false_or_eq_true (eqL [x0, x1, x2, x3, x4] [y0, y1, y2, y3, y4]) with hq | hq
        · go_wp2
          ((refine wp_region_ext (by kernel_rfl) (by kernel_rfl) ?_); (repeat (any_goals (first | go_big_quiet_step ((go_at_call 84; exact quiet_ext (eqJob_any _ _ _ _ _ _ _ _ _ _ _))) | (refine wpQuiet_step (fun K hK => ?_); go_simp; split <;> (refine hK _ ?_; clear hK K)) | quiet_step ((go_at_call 84; exact quiet_ext (eqJob_any _ _ _ _ _ _ _ _ _ _ _)))))); (all_goals (refine wpQuiet_nil ?_; rintro _ ⟨z, rfl⟩; have hb' := z.h; generalize z.w = w1 at hb' ⊢; clear z; (first | (have hb2 := bstep hb' hb hb.size; clear hb' hcb hfb hz1 hz2 hz3 hz4 hb; have hb := hb2; clear hb2) | (have hb := hb'; clear hb')); obtain ⟨hcb, hfb, hz1, hz2, hz3, hz4⟩ := bcell hb; (try simp only [World.size_alloc, World.size_setCell, World.size_drew, Nat.lt_add_one_iff, Nat.add_assoc, Nat.reduceAdd] at hz1 hz2 hz3 hz4))))
          go_wp2
          refine ⟨⟨k + 1, by omega, by go_num, bstep hb hbl hbl.size, ?_⟩, by simp [intOf]; omega⟩
          intro j hj
          have hxy := HX.out
          have he := eqL_true hq
          simp only [List.cons.injEq, and_true] at he
          rcases (by omega : j < k * 5 ∨ j = k * 5 ∨ j = k * 5 + 1 ∨ j = k * 5 + 2 ∨ j = k * 5 + 3 ∨ j = k * 5 + 4) with h | h | h | h | h | h
          · exact hall.out j h
          · rw [h, hxy.1.1, hxy.2.1, he.1]
          · rw [h, hxy.1.2.1, hxy.2.2.1, he.2.1]
          · rw [h, hxy.1.2.2.1, hxy.2.2.2.1, he.2.2.1]
          · rw [h, hxy.1.2.2.2.1, hxy.2.2.2.2.1, he.2.2.2.1]
          · rw [h, hxy.1.2.2.2.2, hxy.2.2.2.2.2, he.2.2.2.2]
        · go_wp2
          ((refine wp_region_ext (by kernel_rfl) (by kernel_rfl) ?_); (repeat (any_goals (first | go_big_quiet_step ((go_at_call 84; exact quiet_ext (eqJob_any _ _ _ _ _ _ _ _ _ _ _))) | (refine wpQuiet_step (fun K hK => ?_); go_simp; split <;> (refine hK _ ?_; clear hK K)) | quiet_step ((go_at_call 84; exact quiet_ext (eqJob_any _ _ _ _ _ _ _ _ _ _ _)))))); (all_goals (refine wpQuiet_nil ?_; rintro _ ⟨z, rfl⟩; have hb' := z.h; generalize z.w = w1 at hb' ⊢; clear z; (first | (have hb2 := bstep hb' hb hb.size; clear hb' hcb hfb hz1 hz2 hz3 hz4 hb; have hb := hb2; clear hb2) | (have hb := hb'; clear hb')); obtain ⟨hcb, hfb, hz1, hz2, hz3, hz4⟩ := bcell hb; (try simp only [World.size_alloc, World.size_setCell, World.size_drew, Nat.lt_add_one_iff, Nat.add_assoc, Nat.reduceAdd] at hz1 hz2 hz3 hz4))))
          go_wp2
          go_ret
          refine ⟨ret_bool (eqL_ne ?_).symm, bstep hb hbl hbl.size⟩
          rintro rfl
          have hxy := HX.out
          exact eqL_false (by rw [hq]; decide) (by simp only [List.cons.injEq, and_true]; exact ⟨hxy.1.1.symm.trans hxy.2.1, hxy.1.2.1.symm.trans hxy.2.2.1, hxy.1.2.2.1.symm.trans hxy.2.2.2.1, hxy.1.2.2.2.1.symm.trans hxy.2.2.2.2.1, hxy.1.2.2.2.2.symm.trans hxy.2.2.2.2.2⟩)
      · have hkn : k = n := by omega
        subst hkn
        go_wp2
        go_ret
        have hzy : zs = ys := list_ext_getD (by rw [HS.out.len, HT.out.len]) (fun j hj => hall.out j (by rw [HS.out.len] at hj; omega))
        exact ⟨ret_bool (by rw [hzy]; exact (eqL_self _).symm), hbl⟩
  · have hne : ¬ (n : Int) = (m : Int) := by omega
    have hz : eqL zs ys = false := by
      refine eqL_ne ?_
      rintro rfl
      have h1 := hS.len
      have h2 := hT.len
      omega
    rw [hz]
    clear hz hS hT
    go_enter Tryz.func45, Tryz.ntmps45
    go_wp2
    go_ret
    exact ⟨rfl, Below.refl _ _⟩


set_option maxHeartbeats 1600000 in
theorem markJobS_any (lo : Nat) (A : Option Addr) (n cap : Nat) (zs : List Int) (k0 : Int) (w : World) (hR : Row w lo 71 5 A n cap zs) (hn : n ≤ 1048576) (hk0 : 0 ≤ k0) (hk1 : k0 ≤ 1073741824) :
    Calls Tryz.prog 48 #[.slice A n cap, .int .i64 k0] w (RetMark w lo 71 5 A n cap k0) := by
  by_cases hz : n = 0
  · subst hz
    have hR' : Row w lo 71 5 A 0 cap (marks k0 (0 * 5)) := by
      have hl := hR.len
      have : zs = [] := List.eq_nil_of_length_eq_zero (by omega)
      subst this
      exact hR
    have HR := Lib.hid hR'
    clear hR hR'
    go_enter Tryz.func48, Tryz.ntmps48
    go_wp2
    go_loop [1, 5] (fun q i => i = .int .i64 0 ∧ q = .int .i64 k0) (fun _ _ => 0)
    case atStart => exact ⟨rfl, rfl⟩
    case round =>
      obtain ⟨rfl, rfl⟩ := hrel
      go_wp2
      go_ret
      exact RetMark.mk (by simp) HR.out (World.grownBy.refl _ _)
  · obtain ⟨g, cs, rfl, hlo, hblk, hnc, hcm, hcs, _⟩ := hR.blk (by omega)
    have HC := Lib.hid (And.intro hcs (And.intro hnc hcm))
    clear hR hcs hcm hz
    have hnc' : (n : Int) ≤ (cap : Int) := by omega
    go_enter Tryz.func48, Tryz.ntmps48
    go_wp2
    go_loopw [1, 5] (fun q i wr => ∃ (k : Nat) (cs : Array Value), k ≤ n ∧ i = .int .i64 k ∧ q = .int .i64 (k0 + (k * 5 : Nat)) ∧ Hid (Wrote w wr (some ⟨g, 0, none⟩)) ∧ Blk wr g 71 cs ∧ Hid (cs.size = cap * 5) ∧ Hid (∀ j, j < k * 5 → cs[j]? = some (.int .i64 (k0 + (j : Int))))) (fun _ i _ => n - (intOf i).toNat)
    case atStart => exact ⟨0, cs, Nat.zero_le _, rfl, by simp, World.grownBy.refl _ _, hblk, HC.out.1, fun j hj => absurd hj (by omega)⟩
    case round =>
      obtain ⟨k, cs', hk, rfl, rfl, hwr, hblk', hcs', hall⟩ := hrel
      by_cases hlt : k < n
      · have _hg := hlt
        obtain ⟨c0, g0⟩ := hblk'.has (i := k * 5) (by have := hcs'.out; have := HC.out.2.1; omega)
        obtain ⟨c1, g1⟩ := hblk'.has (i := k * 5 + 1) (by have := hcs'.out; have := HC.out.2.1; omega)
        obtain ⟨c2, g2⟩ := hblk'.has (i := k * 5 + 2) (by have := hcs'.out; have := HC.out.2.1; omega)
        obtain ⟨c3, g3⟩ := hblk'.has (i := k * 5 + 3) (by have := hcs'.out; have := HC.out.2.1; omega)
        obtain ⟨c4, g4⟩ := hblk'.has (i := k * 5 + 4) (by have := hcs'.out; have := HC.out.2.1; omega)
        have f0 := hblk'.frozen (k * 5)
        have f1 := hblk'.frozen (k * 5 + 1)
        have f2 := hblk'.frozen (k * 5 + 2)
        have f3 := hblk'.frozen (k * 5 + 3)
        have f4 := hblk'.frozen (k * 5 + 4)
        go_wp2
        refine ⟨⟨k + 1, _, by omega, by go_num, congrArg (Value.int .i64) (by omega), ?_, (((((hblk'.set_ _ _).set_ _ _).set_ _ _).set_ _ _).set_ _ _), ?_, ?_⟩, by simp [intOf]; omega⟩
        · exact (wrote_set (p := ⟨g, k * 5 + 4, none⟩) (wrote_set (p := ⟨g, k * 5 + 3, none⟩) (wrote_set (p := ⟨g, k * 5 + 2, none⟩) (wrote_set (p := ⟨g, k * 5 + 1, none⟩) (wrote_set (p := ⟨g, k * 5, none⟩) hwr.out rfl _) rfl _) rfl _) rfl _) rfl _)
        · show Array.size _ = _
          simp only [Array.size_setIfInBounds]
          exact hcs'.out
        · intro j hj
          have hcsz := hcs'.out
          have hnc := HC.out.2.1
          simp only [Array.getElem?_setIfInBounds, Array.size_setIfInBounds]
          rcases (by omega : j < k * 5 ∨ j = k * 5 ∨ j = k * 5 + 1 ∨ j = k * 5 + 2 ∨ j = k * 5 + 3 ∨ j = k * 5 + 4) with h | h | h | h | h | h
          · rw [if_neg (by omega), if_neg (by omega), if_neg (by omega), if_neg (by omega), if_neg (by omega)]
            exact hall.out j h
          · rw [if_neg (by omega), if_neg (by omega), if_neg (by omega), if_neg (by omega), if_pos (by omega), if_pos (by omega), h]
            try exact congrArg (fun z => some (Value.int .i64 z)) (by omega)
          · rw [if_neg (by omega), if_neg (by omega), if_neg (by omega), if_pos (by omega), if_pos (by omega), h]
            try exact congrArg (fun z => some (Value.int .i64 z)) (by omega)
          · rw [if_neg (by omega), if_neg (by omega), if_pos (by omega), if_pos (by omega), h]
            try exact congrArg (fun z => some (Value.int .i64 z)) (by omega)
          · rw [if_neg (by omega), if_pos (by omega), if_pos (by omega), h]
            try exact congrArg (fun z => some (Value.int .i64 z)) (by omega)
          · rw [if_pos (by omega), if_pos (by omega), h]
            try exact congrArg (fun z => some (Value.int .i64 z)) (by omega)
      · have hkn : k = n := by omega
        subst hkn
        go_wp2
        go_ret
        refine RetMark.mk (by omega) (Row.of_blk hblk' hlo HC.out.2.1 HC.out.2.2 hcs'.out (marks_length _ _) (fun j hj => ?_)) hwr.out
        rw [marks_getD _ _ _ hj]
        exact hall.out j (by omega)

set_option maxHeartbeats 1600000 in
theorem heldJobS_any (A : Option Addr) (n cap : Nat) (k0 : Int) (w : World) (hS : Sl w 5 A n (marks k0 (n * 5))) (hn : n ≤ 1048576) (hk0 : 0 ≤ k0) (hk1 : k0 ≤ 1073741824) :
    Calls Tryz.prog 50 #[.slice A n cap, .int .i64 k0] w fun e w' => e = .returned (.int .i64 (k0 + (n * 5 : Nat))) ∧ w = w' := by
  have HS := Lib.hid hS
  clear hS
  go_enter Tryz.func50, Tryz.ntmps50
  go_wp2
  go_loop [1, 5] (fun q i => ∃ (k : Nat), k ≤ n ∧ i = .int .i64 k ∧ q = .int .i64 (k0 + (k * 5 : Nat))) (fun _ i => n - (intOf i).toNat)
  case atStart => exact ⟨0, Nat.zero_le _, rfl, by simp⟩
  case round =>
    obtain ⟨k, hk, rfl, rfl⟩ := hrel
    by_cases hlt : k < n
    · obtain ⟨b, off, rfl, hb, hcell⟩ := HS.out.at_ (by omega)
      have h0 := hcell (k * 5) (by omega)
      have h1 := hcell (k * 5 + 1) (by omega)
      have h2 := hcell (k * 5 + 2) (by omega)
      have h3 := hcell (k * 5 + 3) (by omega)
      have h4 := hcell (k * 5 + 4) (by omega)
      rw [marks_getD _ _ _ (by omega)] at h0 h1 h2 h3 h4
      simp only [← Nat.add_assoc] at h0 h1 h2 h3 h4
      clear hcell
      go_wp2
      exact ⟨⟨k + 1, by omega, by go_num, congrArg (Value.int .i64) (by omega)⟩, by simp [intOf]; omega⟩
    · have hkn : k = n := by omega
      subst hkn
      go_wp2
      go_ret
      exact ⟨ret_int (by omega), rfl⟩
end Go.Proofs.YtokklkmibjpjnaaGreat
namespace Go.Proofs.YtokklkmibjpjnaaGreat
set_option linter.unusedSimpArgs false
set_option linter.unusedVariables false
attribute [local go_sem] n_lt2 n_lt3 n_lt4 n_le2 n_le3
open Go.RowKit

def whoB (x : Int) : Bool := x == 2 || x == 3
def leaseB (h e u : Int) : Bool := (decide (h = 0) && (decide (e = 0) && decide (u = 0))) || (whoB h && (inB e 1 1000 && inB u 1 1001000))
def freeB (h u t : Int) : Bool := decide (h = 0) || decide (u ≤ t)
def freeAtB (h e u t : Int) : Bool := leaseB h e u && (inB t 0 1000000 && freeB h u t)
def holdsB (h e u who ep t : Int) : Bool := leaseB h e u && (inB t 0 1000000 && (!decide (h = 0) && (decide (h = who) && (decide (e = ep) && decide (t < u)))))
def leftI (h e u t : Int) : Int := if leaseB h e u && (inB t 0 1000000 && !freeB h u t) then u - t else 0
def sameLeaseB (h e u h' e' u' : Int) : Bool := leaseB h e u && (decide (h = h') && (decide (e = e') && decide (u = u')))
def grantL (h e u who t long : Int) : (Int × Int × Int) × Bool :=
  if leaseB h e u = true then
    if (whoB who && (inB t 0 1000000 && inB long 1 1000)) = true then
      if h = who then ((h, e, max u (t + long)), true)
      else if (freeB h u t && decide (e < 1000)) = true then ((who, e + 1, t + long), true)
      else ((h, e, u), false)
    else ((h, e, u), false)
  else ((0, 0, 0), false)

theorem lease_bounds {h e u : Int} (hl : leaseB h e u = true) (hh : h ≠ 0) : whoB h = true ∧ 1 ≤ e ∧ e ≤ 1000 ∧ 1 ≤ u ∧ u ≤ 1001000 := by
  unfold leaseB at hl
  simp only [Bool.or_eq_true, Bool.and_eq_true, decide_eq_true_eq, inB_iff] at hl
  rcases hl with hl | ⟨h1, h2, h3⟩
  · exact absurd hl.1 hh
  · exact ⟨h1, h2.1, h2.2, h3.1, h3.2⟩

theorem schedOk_any (x : Int) (w : World) : Calls Tryz.prog 92 #[.int .i64 x] w fun e w' => e = .returned (.bool (whoB x)) ∧ w = w' := by
  go_enter Tryz.func92, Tryz.ntmps92
  go_wp2
  all_goals (go_ret; exact ⟨ret_bool (by first | rfl | (unfold whoB; simp [*])), rfl⟩)
theorem l16Who_any (x : Int) (w : World) : Calls Tryz.prog 69 #[.int .i64 x] w fun e w' => e = .returned (.bool (whoB x)) ∧ w = w' := by
  go_enter Tryz.func69, Tryz.ntmps69
  go_wp2
  all_goals (go_ret; exact ⟨ret_bool (by first | rfl | (unfold whoB; simp [*])), rfl⟩)
theorem l16Time_any (x : Int) (w : World) : Calls Tryz.prog 61 #[.int .i64 x] w fun e w' => e = .returned (.bool (inB x 0 1000000)) ∧ w = w' := by
  go_enter Tryz.func61, Tryz.ntmps61
  go_wp2_with ((go_at_call 60; refine (l1In_any _ _ _ _).mono ?_; rintro e w' ⟨rfl, rfl⟩))
  go_ret; exact ⟨rfl, rfl⟩

set_option maxHeartbeats 400000 in
theorem leaseOk_any (h e u : Int) (w : World) :
    Calls Tryz.prog 78 #[.agg #[.int .i64 h, .int .i64 e, .int .i64 u]] w fun e' w' => e' = .returned (.bool (leaseB h e u)) ∧ Below w.heap.size w w' := by
  go_enter Tryz.func78, Tryz.ntmps78
  go_wp2_with (first | (go_at_call 92; refine (schedOk_any _ _).mono ?_; rintro e w' ⟨rfl, rfl⟩) | (go_at_call 74; refine (between_any _ _ _ _).mono ?_; rintro e w' ⟨rfl, rfl⟩))
  all_goals (go_ret; exact ⟨ret_bool (by unfold leaseB; (first | rfl | (simp [*]; done) | (subst_vars; simp [*]; done) | (simp_all; done))), by (repeat' (first | (with_reducible exact Below.refl _ _) | (with_reducible assumption) | (with_reducible refine Below.alloc ?_ ?_ _) | (with_reducible refine Below.drew ?_) | (with_reducible refine Below.setCell ?_ ?_ _) | (with_reducible refine bstep (by assumption) ?_ ?_) | (with_reducible exact Nat.le_refl _) | omega | (simp [*]; done) | (simp [*]; omega)))⟩)
set_option maxHeartbeats 400000 in
theorem specLeaseOk_any (h e u : Int) (w : World) :
    Calls Tryz.prog 64 #[.agg #[.int .i64 h, .int .i64 e, .int .i64 u]] w fun e' w' => e' = .returned (.bool (leaseB h e u)) ∧ Below w.heap.size w w' := by
  go_enter Tryz.func64, Tryz.ntmps64
  go_wp2_with (first | (go_at_call 69; refine (l16Who_any _ _).mono ?_; rintro e w' ⟨rfl, rfl⟩) | (go_at_call 60; refine (l1In_any _ _ _ _).mono ?_; rintro e w' ⟨rfl, rfl⟩))
  all_goals (go_ret; exact ⟨ret_bool (by unfold leaseB; (first | rfl | (simp [*]; done) | (subst_vars; simp [*]; done) | (simp_all; done))), by (repeat' (first | (with_reducible exact Below.refl _ _) | (with_reducible assumption) | (with_reducible refine Below.alloc ?_ ?_ _) | (with_reducible refine Below.drew ?_) | (with_reducible refine Below.setCell ?_ ?_ _) | (with_reducible refine bstep (by assumption) ?_ ?_) | (with_reducible exact Nat.le_refl _) | omega | (simp [*]; done) | (simp [*]; omega)))⟩)
end Go.Proofs.YtokklkmibjpjnaaGreat
namespace Go.Proofs.YtokklkmibjpjnaaGreat
set_option linter.unusedSimpArgs false
set_option linter.unusedVariables false
attribute [local go_sem] n_lt2 n_lt3 n_lt4 n_le2 n_le3
open Go.RowKit

set_option maxHeartbeats 400000 in
theorem freeAt_any (h e u t : Int) (w : World) :
    Calls Tryz.prog 137 #[.agg #[.int .i64 h, .int .i64 e, .int .i64 u], .int .i64 t] w fun e' w' => e' = .returned (.bool (freeB h u t)) ∧ Below w.heap.size w w' := by
  go_enter Tryz.func137, Tryz.ntmps137
  go_wp2
  all_goals (go_ret; exact ⟨ret_bool (by unfold freeB; (first | rfl | (simp [*]; done) | (subst_vars; simp [*]; done) | (simp_all; done))), by (repeat' (first | (with_reducible exact Below.refl _ _) | (with_reducible assumption) | (with_reducible refine Below.alloc ?_ ?_ _) | (with_reducible refine Below.drew ?_) | (with_reducible refine Below.setCell ?_ ?_ _) | (with_reducible refine bstep (by assumption) ?_ ?_) | (with_reducible exact Nat.le_refl _) | omega | (simp [*]; done) | (simp [*]; omega)))⟩)
set_option maxHeartbeats 400000 in
theorem specFreeAt_any (h e u t : Int) (w : World) :
    Calls Tryz.prog 71 #[.agg #[.int .i64 h, .int .i64 e, .int .i64 u], .int .i64 t] w fun e' w' => e' = .returned (.bool (freeAtB h e u t)) ∧ Below w.heap.size w w' := by
  go_enter Tryz.func71, Tryz.ntmps71
  go_wp2_with (first | (go_at_call 64; refine (specLeaseOk_any _ _ _ _).mono ?_; rintro e w1 ⟨rfl, hb'⟩; (first | (have hb2 := bstep hb' hb hb.size; clear hb' hcb hfb hz1 hz2 hz3 hz4 hb; have hb := hb2; clear hb2) | (have hb := hb'; clear hb')); obtain ⟨hcb, hfb, hz1, hz2, hz3, hz4⟩ := bcell hb; (try simp only [World.size_alloc, World.size_setCell, World.size_drew, Nat.lt_add_one_iff, Nat.add_assoc, Nat.reduceAdd] at hz1 hz2 hz3 hz4)) | (go_at_call 61; refine (l16Time_any _ _).mono ?_; rintro e w' ⟨rfl, rfl⟩))
  all_goals (go_ret; exact ⟨ret_bool (by unfold freeAtB freeB; (first | rfl | (simp [*]; done) | (subst_vars; simp [*]; done) | (simp_all; done))), by (repeat' (first | (with_reducible exact Below.refl _ _) | (with_reducible assumption) | (with_reducible refine Below.alloc ?_ ?_ _) | (with_reducible refine Below.drew ?_) | (with_reducible refine Below.setCell ?_ ?_ _) | (with_reducible refine bstep (by assumption) ?_ ?_) | (with_reducible exact Nat.le_refl _) | omega | (simp [*]; done) | (simp [*]; omega)))⟩)
set_option maxHeartbeats 800000 in
theorem HoldsAt_any (h e u who ep t : Int) (w : World) :
    Calls Tryz.prog 121 #[.agg #[.int .i64 h, .int .i64 e, .int .i64 u], .int .i64 who, .int .i64 ep, .int .i64 t] w fun e' w' => e' = .returned (.bool (holdsB h e u who ep t)) ∧ Below w.heap.size w w' := by
  go_enter Tryz.func121, Tryz.ntmps121
  go_wp2_with (first | (go_at_call 78; refine (leaseOk_any _ _ _ _).mono ?_; rintro e w1 ⟨rfl, hb'⟩; (first | (have hb2 := bstep hb' hb hb.size; clear hb' hcb hfb hz1 hz2 hz3 hz4 hb; have hb := hb2; clear hb2) | (have hb := hb'; clear hb')); obtain ⟨hcb, hfb, hz1, hz2, hz3, hz4⟩ := bcell hb; (try simp only [World.size_alloc, World.size_setCell, World.size_drew, Nat.lt_add_one_iff, Nat.add_assoc, Nat.reduceAdd] at hz1 hz2 hz3 hz4)) | (go_at_call 75; refine (timeOk_any _ _).mono ?_; rintro e w' ⟨rfl, rfl⟩))
  all_goals (go_ret; exact ⟨ret_bool (by unfold holdsB; (first | rfl | (simp [*]; done) | (subst_vars; simp [*]; done) | (simp_all; done))), by (repeat' (first | (with_reducible exact Below.refl _ _) | (with_reducible assumption) | (with_reducible refine Below.alloc ?_ ?_ _) | (with_reducible refine Below.drew ?_) | (with_reducible refine Below.setCell ?_ ?_ _) | (with_reducible refine bstep (by assumption) ?_ ?_) | (with_reducible exact Nat.le_refl _) | omega | (simp [*]; done) | (simp [*]; omega)))⟩)
set_option maxHeartbeats 800000 in
theorem specHoldsAt_any (h e u who ep t : Int) (w : World) :
    Calls Tryz.prog 86 #[.agg #[.int .i64 h, .int .i64 e, .int .i64 u], .int .i64 who, .int .i64 ep, .int .i64 t] w fun e' w' => e' = .returned (.bool (holdsB h e u who ep t)) ∧ Below w.heap.size w w' := by
  go_enter Tryz.func86, Tryz.ntmps86
  go_wp2_with (first | (go_at_call 64; refine (specLeaseOk_any _ _ _ _).mono ?_; rintro e w1 ⟨rfl, hb'⟩; (first | (have hb2 := bstep hb' hb hb.size; clear hb' hcb hfb hz1 hz2 hz3 hz4 hb; have hb := hb2; clear hb2) | (have hb := hb'; clear hb')); obtain ⟨hcb, hfb, hz1, hz2, hz3, hz4⟩ := bcell hb; (try simp only [World.size_alloc, World.size_setCell, World.size_drew, Nat.lt_add_one_iff, Nat.add_assoc, Nat.reduceAdd] at hz1 hz2 hz3 hz4)) | (go_at_call 61; refine (l16Time_any _ _).mono ?_; rintro e w' ⟨rfl, rfl⟩))
  all_goals (go_ret; exact ⟨ret_bool (by unfold holdsB; (first | rfl | (simp [*]; done) | (subst_vars; simp [*]; done) | (simp_all; done))), by (repeat' (first | (with_reducible exact Below.refl _ _) | (with_reducible assumption) | (with_reducible refine Below.alloc ?_ ?_ _) | (with_reducible refine Below.drew ?_) | (with_reducible refine Below.setCell ?_ ?_ _) | (with_reducible refine bstep (by assumption) ?_ ?_) | (with_reducible exact Nat.le_refl _) | omega | (simp [*]; done) | (simp [*]; omega)))⟩)
theorem toLease_any (h e u : Int) (w : World) :
    Calls Tryz.prog 38 #[.agg #[.int .i64 h, .int .i64 e, .int .i64 u]] w fun e' w' => e' = .returned (.agg #[.int .i64 h, .int .i64 e, .int .i64 u]) ∧ Below w.heap.size w w' := by
  go_enter Tryz.func38, Tryz.ntmps38
  go_wp2
  refine bodyPost_ret (v := .agg #[.int .i64 h, .int .i64 e, .int .i64 u]) (by simp [results, Tryz.results38, go_sem]) rfl ⟨rfl, ?_⟩
  (repeat' (first | (with_reducible exact Below.refl _ _) | (with_reducible assumption) | (with_reducible refine Below.alloc ?_ ?_ _) | (with_reducible refine Below.drew ?_) | (with_reducible refine Below.setCell ?_ ?_ _) | (with_reducible refine bstep (by assumption) ?_ ?_) | (with_reducible exact Nat.le_refl _) | omega | (simp [*]; done) | (simp [*]; omega)))
set_option maxHeartbeats 400000 in
theorem eqLease_any (h e u h' e2 u' : Int) (w : World) :
    Calls Tryz.prog 46 #[.agg #[.int .i64 h, .int .i64 e, .int .i64 u], .agg #[.int .i64 h', .int .i64 e2, .int .i64 u']] w fun e' w' => e' = .returned (.bool (decide (h = h') && (decide (e = e2) && decide (u = u')))) ∧ Below w.heap.size w w' := by
  go_enter Tryz.func46, Tryz.ntmps46
  go_wp2
  all_goals (go_ret; exact ⟨ret_bool (by (first | rfl | (simp [*]; done) | (subst_vars; simp [*]; done) | (simp_all; done))), by (repeat' (first | (with_reducible exact Below.refl _ _) | (with_reducible assumption) | (with_reducible refine Below.alloc ?_ ?_ _) | (with_reducible refine Below.drew ?_) | (with_reducible refine Below.setCell ?_ ?_ _) | (with_reducible refine bstep (by assumption) ?_ ?_) | (with_reducible exact Nat.le_refl _) | omega | (simp [*]; done) | (simp [*]; omega)))⟩)
end Go.Proofs.YtokklkmibjpjnaaGreat
namespace Go.Proofs.YtokklkmibjpjnaaGreat
set_option linter.unusedSimpArgs false
set_option linter.unusedVariables false
attribute [local go_sem] n_lt2 n_lt3 n_lt4 n_le2 n_le3
open Go.RowKit

def slen : Value → Nat
  | .slice _ n _ => n
  | _ => 0
/-- vs laid over cs from o on. -/
def over (cs : Array Value) : Nat → List Value → Array Value
  | _, [] => cs
  | o, v :: r => over (cs.setIfInBounds o v) (o + 1) r
theorem over_size : ∀ (vs : List Value) (cs : Array Value) (o : Nat), (over cs o vs).size = cs.size
  | [], _, _ => rfl
  | v :: r, cs, o => by rw [over, over_size r]; simp
theorem over_out : ∀ (vs : List Value) (cs : Array Value) (o j : Nat), (j < o ∨ o + vs.length ≤ j) → (over cs o vs)[j]? = cs[j]?
  | [], _, _, _, _ => rfl
  | v :: r, cs, o, j, h => by
    simp only [List.length_cons] at h
    rw [over, over_out r _ (o + 1) j (by omega), Array.getElem?_setIfInBounds_ne (by omega)]
theorem over_in : ∀ (vs : List Value) (cs : Array Value) (o j : Nat), o + vs.length ≤ cs.size → j < vs.length → (over cs o vs)[o + j]? = vs[j]?
  | v :: r, cs, o, 0, h, _ => by
    simp only [List.length_cons] at h
    rw [over, over_out r _ (o + 1) _ (by omega), Nat.add_zero, Array.getElem?_setIfInBounds_self_of_lt (by omega)]
    rfl
  | v :: r, cs, o, j + 1, h, hj => by
    simp only [List.length_cons] at h hj
    rw [over, show o + (j + 1) = o + 1 + j by omega, over_in r _ (o + 1) j (by simp; omega) (by omega)]
    simp
theorem Blk.over {g : Nat} {e : TypeId} : ∀ (vs : List Value) (cs : Array Value) (o : Nat) (w : World), Blk w g e cs → Blk (w.setCells g o vs) g e (over cs o vs)
  | [], _, _, _, h => h
  | v :: r, cs, o, w, h => Blk.over r _ (o + 1) _ (h.set_ o v)
theorem below_setCells {B g : Nat} {a : World} (hg : B ≤ g) : ∀ (vs : List Value) (o : Nat) (w : World), Below B a w → Below B a (w.setCells g o vs)
  | [], _, _, h => h
  | v :: r, o, w, h => below_setCells hg r (o + 1) _ (h.setCell (p := ⟨g, o, none⟩) hg v)
theorem heap_setCells {g k : Nat} (hk : k ≠ g) : ∀ (vs : List Value) (o : Nat) (w : World), (w.setCells g o vs).heap[k]? = w.heap[k]?
  | [], _, _ => rfl
  | v :: r, o, w => (heap_setCells hk r (o + 1) _).trans (Below.heap_setCell w ⟨g, o, none⟩ v k hk)
theorem size_setCells {g : Nat} : ∀ (vs : List Value) (o : Nat) (w : World), (w.setCells g o vs).heap.size = w.heap.size
  | [], _, _ => rfl
  | v :: r, o, w => (size_setCells r (o + 1) _).trans (by simp [World.setCell])
theorem drew_setCells (b : Nat) : ∀ (vs : List Value) (o : Nat) (w : World), (w.setCells b o vs).drew = w.drew.setCells b o vs
  | [], _, _ => rfl
  | v :: r, o, w => by rw [World.setCells, World.setCells, drew_setCells b r]; rfl

def zeros (n : Nat) : List Value := List.replicate n (.int .i64 0)
theorem zeros_length (n : Nat) : (zeros n).length = n := by simp [zeros]
theorem zeros_ints (n : Nat) : zeros n = ints (List.replicate n 0) := by simp [zeros, ints]
theorem zeroCells_flat {z : Value} {s : Nat} (hz : z.cells = Array.replicate s (.int .i64 0)) (n : Nat) : (Builtin.zeroCells z.cells n).toList = zeros (n * s) := by
  rw [hz]
  unfold Builtin.zeroCells zeros
  apply List.ext_getElem
  · simp
  · intro i h1 h2
    simp only [List.length_replicate] at h2
    have hs : 0 < s := by
      rcases Nat.eq_zero_or_pos s with h | h
      · subst h; simp at h2
      · exact h
    have hm : i % s < s := Nat.mod_lt _ hs
    simp [hm]

theorem getD_drop (l : List Int) (a t : Nat) : (l.drop a).getD t 0 = l.getD (a + t) 0 := by simp [List.getD]
theorem getD_take (l : List Int) (a t : Nat) (h : t < a) : (l.take a).getD t 0 = l.getD t 0 := by simp [List.getD, List.getElem?_take, h]
theorem getD_append_l (a b : List Int) (t : Nat) (h : t < a.length) : (a ++ b).getD t 0 = a.getD t 0 := by simp [List.getD, List.getElem?_append_left h]
theorem getD_append_r (a b : List Int) (t : Nat) (h : a.length ≤ t) : (a ++ b).getD t 0 = b.getD (t - a.length) 0 := by simp [List.getD, List.getElem?_append_right h]
theorem Sl.sub {w : World} {b off n : Nat} {zs : List Int} (h : Sl w 1 (some ⟨b, off, none⟩) n zs) (k m : Nat) (hm : k + m ≤ n) : Sl w 1 (some ⟨b, off + k, none⟩) m ((zs.drop k).take m) := by
  have hl := h.len
  refine ⟨by simp; omega, fun hm0 => ?_⟩
  obtain ⟨b', off', hA, hb, hc⟩ := h.at_ (by omega)
  injection hA with hA
  injection hA with h1 h2
  subst h1 h2
  refine ⟨b, off + k, rfl, hb, fun j hj => ?_⟩
  rw [getD_take _ _ _ (by omega), getD_drop, Nat.add_assoc]
  exact hc (k + j) (by omega)
/-- 'clear' of n > 0 elements of s cells each. -/
theorem run_clear_flat {P : Program} (w : World) (t e ty : TypeId) (z : Value) (s : Nat) (ht : P.underlying t = some (.slice e)) (hv : ∀ w, (zeroValue e).run P w = .ok z w) (hz : z.cells = Array.replicate s (.int .i64 0)) (b o n c : Nat) (hn : 0 < n)
    (hc : ∀ j, j < n * s → (w.cell? ⟨b, o + j, none⟩).isSome = true) (hf : ∀ j, j < n * s → w.frozen? ⟨b, o + j, none⟩ = false) :
    (Builtin.clear_ #[t] ty #[.slice (some ⟨b, o, none⟩) n c]).run P w = .ok (.tuple #[]) (w.setCells b o (zeros (n * s))) := by
  have hzc := zeroCells_flat hz n
  have hst := run_storeCells_cells (P := P) b o (zeros (n * s)) 0 w (by simpa [zeros_length] using hc) (by simpa [zeros_length] using hf) (by intro v hv'; rw [List.eq_of_mem_replicate hv']; rfl)
  simp only [Nat.add_zero] at hst
  obtain ⟨m, rfl⟩ : ∃ m, n = m + 1 := ⟨n - 1, by omega⟩
  simp [Builtin.clear_, run_underlying ht, hv, hzc, hst]
/-- 'copy' of k elements of s cells each. -/
theorem run_copy_flat {P : Program} (w : World) (dT sT ty elem : TypeId) (s k b o dLen dCap : Nat) (a : Addr) (sLen sCap : Nat) (cs : List Value)
    (hu : P.underlying dT = some (.slice elem)) (hs : (P.info? elem).map (·.size) = some s) (hk : k = Nat.min sLen dLen) (hn : cs.length = k * s)
    (hsrc : ∀ j v, cs[j]? = some v → w.cell? (a.add j) = some v) (hc : ∀ j, j < cs.length → (w.cell? ⟨b, o + j, none⟩).isSome = true) (hf : ∀ j, j < cs.length → w.frozen? ⟨b, o + j, none⟩ = false) (h1 : ∀ v ∈ cs, v.oneCell' = true) :
    (Builtin.copy_ #[dT, sT] ty #[.slice (some ⟨b, o, none⟩) dLen dCap, .slice (some a) sLen sCap]).run P w = .ok (goInt k) (w.setCells b o cs) := by
  have hl := run_loadCells_list (P := P) w a cs hsrc
  have hst := run_storeCells_cells (P := P) b o cs 0 w (by simpa using hc) (by simpa using hf) h1
  cases hq : P.info? elem with
  | none => simp [hq] at hs
  | some i =>
    have hi : i.size = s := by simpa [hq] using hs
    simp [Builtin.copy_, run_underlying hu, Builtin.lenOf, Builtin.firstCells, sizeOf, typeInfo, hq, hi, ← hk, ← hn, hl, hst]
theorem wpList_copy_runI {P : Program} (w : World) {ops : Array Oper} {rest : List Oper} {o : Oper} {a : Act} {Q : Exit → Act → World → Prop} (hgd : o.guard = none) (d s : Operand) (t t' : TypeId)
    (ho : o.op = .call { callee := .builtin .copy, args := #[d, s], argTypes := #[t, t'] }) (v u : Value) (hd : a.eval d = v) (hs : a.eval s = u) {v' : Value} {w' : World}
    (hr : (Builtin.copy_ #[t, t'] o.type #[v, u]).run P w = .ok v' w') (h : wpList P ops Q rest (a.put o.dst v') w') : wpList P ops Q (o :: rest) a w := by
  refine wpList_plain hgd fun _ hK => ?_
  unfold Oper.wp execOp
  simp only [ho, resolve, invoke, builtin, Sem.run_bind, Sem.run_pure, Result.andThen_ok, List.map_toArray, List.map_cons, List.map_nil, hd, hs, hr]
  exact hK _ _ h
theorem step_copy_runI {P : Program} {ops : Array Oper} {o : Oper} {a : Act} {w : World} {K : Act → World → Prop} {Q : Exit → Act → World → Prop} {E : Prop}
    (hg : o.guard = none) (d x : Operand) (dT sT : TypeId) (hop : o.op = Op.call { callee := Callee.builtin Builtin.copy, args := #[d, x], argTypes := #[dT, sT] })
    (v u : Value) (hd : a.eval d = v) (hx : a.eval x = u) {v' : Value} {w' : World} (hr : (Builtin.copy_ #[dT, sT] o.type #[v, u]).run P w = .ok v' w') (hK : K (a.put o.dst v') w') :
    if Region.wanted o (yielded ops a.tmps) = true then Oper.wp P o a w K Q else E := by
  have hw : Region.wanted o (yielded ops a.tmps) = true := by simp [Region.wanted, hg]
  rw [if_pos hw]
  unfold Oper.wp
  simp [execOp, hop, resolve, invoke, builtin, hd, hx, hr, Result.andThen]
  exact hK
theorem Blk.shape {w : World} {g : Nat} {e : TypeId} {cs : Array Value} (h : Blk w g e cs) : w.shape? g = some (e, cs.size) := by
  unfold Blk at h
  simp [World.shape?, h]
/-- zs with vs laid in at place o. -/
theorem ins_getD (zs vs : List Int) (o t : Nat) (ho : o ≤ zs.length) : (zs.take o ++ vs ++ zs.drop o).getD t 0 = if t < o then zs.getD t 0 else if t < o + vs.length then vs.getD (t - o) 0 else zs.getD (t - vs.length) 0 := by
  have hl : (zs.take o).length = o := by simp; omega
  split
  · rename_i h
    rw [getD_append_l _ _ _ (by rw [List.length_append]; omega), getD_append_l _ _ _ (by omega), getD_take _ _ _ h]
  · split
    · rename_i h1 h2
      rw [getD_append_l _ _ _ (by rw [List.length_append]; omega), getD_append_r _ _ _ (by omega), hl]
    · rename_i h1 h2
      rw [getD_append_r _ _ _ (by rw [List.length_append]; omega), List.length_append, hl, getD_drop]
      congr 1
      omega
end Go.Proofs.YtokklkmibjpjnaaGreat
namespace Go.Proofs.YtokklkmibjpjnaaGreat
set_option linter.unusedSimpArgs false
set_option linter.unusedVariables false
attribute [local go_sem] n_lt2 n_lt3 n_lt4 n_le2 n_le3
open Go.RowKit

theorem calls_named {P : Program} {f : FuncId} {args : Array Value} {w : World} {Q : Ending → World → Prop} (h : ∀ w', w' = w → Calls P f args w' Q) : Calls P f args w Q := h w rfl
end Go.Proofs.YtokklkmibjpjnaaGreat
namespace Go.Proofs.YtokklkmibjpjnaaGreat
set_option linter.unusedSimpArgs false
set_option linter.unusedVariables false
attribute [local go_sem] n_lt2 n_lt3 n_lt4 n_le2 n_le3
open Go.RowKit
theorem Blk.new_at (w : World) (e : TypeId) (cs : Array Value) (g : Nat) (hg : g = w.heap.size) : Blk (w.alloc (.cells cs e)) g e cs := by
  subst hg
  exact Blk.new w e cs
theorem Row.alloc {w : World} {lo : Nat} {e : TypeId} {s : Nat} {A : Option Addr} {n cap : Nat} {zs : List Int} (h : Row w lo e s A n cap zs) (o : Obj) : Row (w.alloc o) lo e s A n cap zs := World.ownsRow.alloc h o
theorem Row.drew {w : World} {lo : Nat} {e : TypeId} {s : Nat} {A : Option Addr} {n cap : Nat} {zs : List Int} (h : Row w lo e s A n cap zs) : Row w.drew lo e s A n cap zs := h
theorem Row.far {w : World} {lo : Nat} {e : TypeId} {s : Nat} {A : Option Addr} {n cap : Nat} {zs : List Int} (h : Row w lo e s A n cap zs) {p : Addr} (hp : ∀ a, A = some a → a.block ≠ p.block) (u : Value) : Row (w.setCell p u) lo e s A n cap zs :=
  h.keep (fun a ha => Below.heap_setCell w p u a.block (hp a ha))
theorem Sl.alloc {w : World} {s : Nat} {A : Option Addr} {n : Nat} {zs : List Int} (h : Sl w s A n zs) (o : Obj) : Sl (w.alloc o) s A n zs := h.below ((Below.refl _ _).alloc (Nat.le_refl _) o)
theorem Sl.far {w : World} {s : Nat} {A : Option Addr} {n : Nat} {zs : List Int} (h : Sl w s A n zs) {p : Addr} (hp : 0 < n → ∀ a, A = some a → a.block ≠ p.block) (u : Value) : Sl (w.setCell p u) s A n zs := by
  refine ⟨h.1, fun hn => ?_⟩
  obtain ⟨b, off, rfl, hb, hj⟩ := h.2 hn
  refine ⟨b, off, rfl, by simpa [World.setCell] using hb, fun j hjn => ?_⟩
  rw [World.cell?_of_block (Below.heap_setCell w p u b (hp hn _ rfl))]
  exact hj j hjn
theorem size_set (w : World) (p : Addr) (u : Value) : (w.setCell p u).heap.size = w.heap.size := by simp [World.setCell]
theorem Blk.wrote2 {w w' : World} {g p : Nat} {e : TypeId} {cs : Array Value} (h : Blk w g e cs) (hw : Wrote w w' (some ⟨p, 0, none⟩)) (hne : g ≠ p) : Blk w' g e cs :=
  (World.grownBy.block hw g h.lt (by simpa using hne)).trans h
end Go.Proofs.YtokklkmibjpjnaaGreat
namespace Go.Proofs.YtokklkmibjpjnaaGreat
set_option linter.unusedSimpArgs false
set_option linter.unusedVariables false
attribute [local go_sem] n_lt2 n_lt3 n_lt4 n_le2 n_le3
open Go.RowKit
attribute [local go_sem] Ext.cell Ext.frozen

/-- What a call that hands back a State leaves: its two slices are rows of its own. -/
def RetState (w : World) (i0 t0 l0 l1 l2 : Int) (n : Nat) (zp : List Int) (m : Nat) (zq : List Int) (en : Ending) (w' : World) : Prop :=
  ∃ A c B d, en = .returned (.agg #[.int .i64 i0, .int .i64 t0, .slice A n c, .slice B m d, .int .i64 l0, .int .i64 l1, .int .i64 l2]) ∧ Row w' w.heap.size 106 2 A n c zp ∧ Row w' w.heap.size 71 5 B m d zq ∧ (∀ a b, A = some a → B = some b → a.block ≠ b.block) ∧ Below w.heap.size w w'
theorem szState_yes (A : Option Addr) (n c : Nat) (B : Option Addr) (m d : Nat) (i0 t0 l0 l1 l2 : Int) (left : Int) (w : World) (h : (n : Int) + m ≤ left) (hl : left ≤ 1048576) :
    Calls Tryz.prog 6 #[.agg #[.int .i64 i0, .int .i64 t0, .slice A n c, .slice B m d, .int .i64 l0, .int .i64 l1, .int .i64 l2], .int .i64 left] w fun e' w' => e' = .returned (.int .i64 (left - n - m)) ∧ Below w.heap.size w w' := by
  go_enter Tryz.func6, Tryz.ntmps6
  go_wp2_with fail
  refine calls_named ?_
  rintro v0 hv0
  have f0 : Below w.heap.size w v0 := by rw [hv0]; (repeat' (first | (with_reducible exact Below.refl _ _) | (with_reducible assumption) | (with_reducible refine Below.alloc ?_ ?_ _) | (with_reducible refine Below.drew ?_) | (with_reducible refine Below.setCell ?_ ?_ _) | (with_reducible refine bstep (by assumption) ?_ ?_) | (with_reducible exact Nat.le_refl _) | omega | (simp [*]; done) | (simp [*]; omega)))
  have z0 : w.heap.size + 1 ≤ v0.heap.size := by rw [hv0]; simp [size_set]
  have Ha_0 : Hid (Blk v0 w.heap.size 27 #[.int .i64 i0, .int .i64 t0, .slice A n c, .slice B m d, .int .i64 l0, .int .i64 l1, .int .i64 l2]) := by rw [hv0]; exact Blk.new_at _ _ _ _ (by simp)
  clear hv0
  have lt_a := Ha_0.out.lt
  have r_a0 : v0.cell? ⟨w.heap.size, 0, none⟩ = some (.int .i64 i0) := Ha_0.out.cell 0
  have r_a1 : v0.cell? ⟨w.heap.size, 1, none⟩ = some (.int .i64 t0) := Ha_0.out.cell 1
  have r_a2 : v0.cell? ⟨w.heap.size, 2, none⟩ = some (.slice A n c) := Ha_0.out.cell 2
  have r_a3 : v0.cell? ⟨w.heap.size, 3, none⟩ = some (.slice B m d) := Ha_0.out.cell 3
  have r_a4 : v0.cell? ⟨w.heap.size, 4, none⟩ = some (.int .i64 l0) := Ha_0.out.cell 4
  have r_a5 : v0.cell? ⟨w.heap.size, 5, none⟩ = some (.int .i64 l1) := Ha_0.out.cell 5
  have r_a6 : v0.cell? ⟨w.heap.size, 6, none⟩ = some (.int .i64 l2) := Ha_0.out.cell 6
  refine (szPairS_yes _ _ _ _ _ (by omega) (by omega)).mono ?_
  rintro e v' ⟨rfl, rfl⟩
  go_wp2_with fail
  refine (szJobS_yes _ _ _ _ _ (by omega) (by omega)).mono ?_
  rintro e v' ⟨rfl, rfl⟩
  go_wp2
  go_ret
  exact ⟨rfl, f0⟩
theorem szState_no1 (A : Option Addr) (n c : Nat) (B : Option Addr) (m d : Nat) (i0 t0 l0 l1 l2 : Int) (left : Int) (w : World) (h : left < (n : Int)) (h0 : 0 ≤ left) (hl : left ≤ 1048576) (hm : n ≤ maxLen) :
    Calls Tryz.prog 6 #[.agg #[.int .i64 i0, .int .i64 t0, .slice A n c, .slice B m d, .int .i64 l0, .int .i64 l1, .int .i64 l2], .int .i64 left] w fun e' w' => e' = .returned (.int .i64 (-1)) ∧ Below w.heap.size w w' := by
  go_enter Tryz.func6, Tryz.ntmps6
  go_wp2_with fail
  refine calls_named ?_
  rintro v0 hv0
  have f0 : Below w.heap.size w v0 := by rw [hv0]; (repeat' (first | (with_reducible exact Below.refl _ _) | (with_reducible assumption) | (with_reducible refine Below.alloc ?_ ?_ _) | (with_reducible refine Below.drew ?_) | (with_reducible refine Below.setCell ?_ ?_ _) | (with_reducible refine bstep (by assumption) ?_ ?_) | (with_reducible exact Nat.le_refl _) | omega | (simp [*]; done) | (simp [*]; omega)))
  have z0 : w.heap.size + 1 ≤ v0.heap.size := by rw [hv0]; simp [size_set]
  have Ha_0 : Hid (Blk v0 w.heap.size 27 #[.int .i64 i0, .int .i64 t0, .slice A n c, .slice B m d, .int .i64 l0, .int .i64 l1, .int .i64 l2]) := by rw [hv0]; exact Blk.new_at _ _ _ _ (by simp)
  clear hv0
  have lt_a := Ha_0.out.lt
  have r_a0 : v0.cell? ⟨w.heap.size, 0, none⟩ = some (.int .i64 i0) := Ha_0.out.cell 0
  have r_a1 : v0.cell? ⟨w.heap.size, 1, none⟩ = some (.int .i64 t0) := Ha_0.out.cell 1
  have r_a2 : v0.cell? ⟨w.heap.size, 2, none⟩ = some (.slice A n c) := Ha_0.out.cell 2
  have r_a3 : v0.cell? ⟨w.heap.size, 3, none⟩ = some (.slice B m d) := Ha_0.out.cell 3
  have r_a4 : v0.cell? ⟨w.heap.size, 4, none⟩ = some (.int .i64 l0) := Ha_0.out.cell 4
  have r_a5 : v0.cell? ⟨w.heap.size, 5, none⟩ = some (.int .i64 l1) := Ha_0.out.cell 5
  have r_a6 : v0.cell? ⟨w.heap.size, 6, none⟩ = some (.int .i64 l2) := Ha_0.out.cell 6
  refine (szPairS_no _ _ _ _ _ (by omega) (by omega) (by omega) hm).mono ?_
  rintro e v' ⟨rfl, rfl⟩
  go_wp2
  go_ret
  exact ⟨rfl, f0⟩
theorem szState_no2 (A : Option Addr) (n c : Nat) (B : Option Addr) (m d : Nat) (i0 t0 l0 l1 l2 : Int) (left : Int) (w : World) (h1 : (n : Int) ≤ left) (h : left - n < (m : Int)) (hl : left ≤ 1048576) (hm : m ≤ maxLen) :
    Calls Tryz.prog 6 #[.agg #[.int .i64 i0, .int .i64 t0, .slice A n c, .slice B m d, .int .i64 l0, .int .i64 l1, .int .i64 l2], .int .i64 left] w fun e' w' => e' = .returned (.int .i64 (-1)) ∧ Below w.heap.size w w' := by
  go_enter Tryz.func6, Tryz.ntmps6
  go_wp2_with fail
  refine calls_named ?_
  rintro v0 hv0
  have f0 : Below w.heap.size w v0 := by rw [hv0]; (repeat' (first | (with_reducible exact Below.refl _ _) | (with_reducible assumption) | (with_reducible refine Below.alloc ?_ ?_ _) | (with_reducible refine Below.drew ?_) | (with_reducible refine Below.setCell ?_ ?_ _) | (with_reducible refine bstep (by assumption) ?_ ?_) | (with_reducible exact Nat.le_refl _) | omega | (simp [*]; done) | (simp [*]; omega)))
  have z0 : w.heap.size + 1 ≤ v0.heap.size := by rw [hv0]; simp [size_set]
  have Ha_0 : Hid (Blk v0 w.heap.size 27 #[.int .i64 i0, .int .i64 t0, .slice A n c, .slice B m d, .int .i64 l0, .int .i64 l1, .int .i64 l2]) := by rw [hv0]; exact Blk.new_at _ _ _ _ (by simp)
  clear hv0
  have lt_a := Ha_0.out.lt
  have r_a0 : v0.cell? ⟨w.heap.size, 0, none⟩ = some (.int .i64 i0) := Ha_0.out.cell 0
  have r_a1 : v0.cell? ⟨w.heap.size, 1, none⟩ = some (.int .i64 t0) := Ha_0.out.cell 1
  have r_a2 : v0.cell? ⟨w.heap.size, 2, none⟩ = some (.slice A n c) := Ha_0.out.cell 2
  have r_a3 : v0.cell? ⟨w.heap.size, 3, none⟩ = some (.slice B m d) := Ha_0.out.cell 3
  have r_a4 : v0.cell? ⟨w.heap.size, 4, none⟩ = some (.int .i64 l0) := Ha_0.out.cell 4
  have r_a5 : v0.cell? ⟨w.heap.size, 5, none⟩ = some (.int .i64 l1) := Ha_0.out.cell 5
  have r_a6 : v0.cell? ⟨w.heap.size, 6, none⟩ = some (.int .i64 l2) := Ha_0.out.cell 6
  refine (szPairS_yes _ _ _ _ _ (by omega) (by omega)).mono ?_
  rintro e v' ⟨rfl, rfl⟩
  go_wp2_with fail
  refine (szJobS_no _ _ _ _ _ (by omega) (by omega) (by omega) hm).mono ?_
  rintro e v' ⟨rfl, rfl⟩
  go_wp2
  go_ret
  exact ⟨rfl, f0⟩
set_option maxRecDepth 100000 in
set_option maxHeartbeats 2000000 in
theorem toState_any (A : Option Addr) (n c : Nat) (B : Option Addr) (m d : Nat) (i0 t0 l0 l1 l2 : Int) (zp zq : List Int) (w : World) (hP : Sl w 2 A n zp) (hQ : Sl w 5 B m zq) (hn : n ≤ 1048576) (hm : m ≤ 1048576) :
    Calls Tryz.prog 8 #[.agg #[.int .i64 i0, .int .i64 t0, .slice A n c, .slice B m d, .int .i64 l0, .int .i64 l1, .int .i64 l2]] w (RetState w i0 t0 l0 l1 l2 n zp m zq) := by
  have HP := Lib.hid hP
  have HQ := Lib.hid hQ
  clear hP hQ
  go_enter Tryz.func8, Tryz.ntmps8
  go_wp2_with fail
  refine calls_named ?_
  rintro v0 hv0
  have f0 : Below w.heap.size w v0 := by rw [hv0]; (repeat' (first | (with_reducible exact Below.refl _ _) | (with_reducible assumption) | (with_reducible refine Below.alloc ?_ ?_ _) | (with_reducible refine Below.drew ?_) | (with_reducible refine Below.setCell ?_ ?_ _) | (with_reducible refine bstep (by assumption) ?_ ?_) | (with_reducible exact Nat.le_refl _) | omega | (simp [*]; done) | (simp [*]; omega)))
  have z0 : w.heap.size + 3 ≤ v0.heap.size := by rw [hv0]; simp [size_set]
  have HP_0 := Lib.hid (HP.out.below f0)
  have HP_lt := Lib.hid (fun hn => HP.out.lt hn)
  have HQ_0 := Lib.hid (HQ.out.below f0)
  have HQ_lt := Lib.hid (fun hn => HQ.out.lt hn)
  have Ha_0 : Hid (Blk v0 w.heap.size 27 #[.int .i64 i0, .int .i64 t0, .slice A n c, .slice B m d, .int .i64 l0, .int .i64 l1, .int .i64 l2]) := by rw [hv0]; exact ((Blk.new_at _ _ _ _ (by simp)).alloc _).alloc _
  have Hr_0 : Hid (Blk v0 (w.heap.size + 1) 37 #[.int .i64 0, .int .i64 0, .slice none 0 0, .slice none 0 0, .int .i64 0, .int .i64 0, .int .i64 0]) := by rw [hv0]; exact (Blk.new_at _ _ _ _ (by simp)).alloc _
  have Ho_0 : Hid (Blk v0 (w.heap.size + 1 + 1) 37 #[.int .i64 i0, .int .i64 t0, .slice none 0 0, .slice none 0 0, .int .i64 0, .int .i64 0, .int .i64 0]) := by rw [hv0]; exact Blk.new_at _ _ _ _ (by simp)
  clear hv0
  generalize hg2 : w.heap.size + 1 + 1 = g2 at *
  generalize hg1 : w.heap.size + 1 = g1 at *
  have lg1 : w.heap.size < g1 := by omega
  have lg2 : g1 < g2 := by omega
  have lgz : g2 < v0.heap.size := by omega
  have nq1x0 : ¬ g1 = w.heap.size := by omega
  have nq0x1 : ¬ w.heap.size = g1 := by omega
  have nq2x0 : ¬ g2 = w.heap.size := by omega
  have nq0x2 : ¬ w.heap.size = g2 := by omega
  have nq2x1 : ¬ g2 = g1 := by omega
  have nq1x2 : ¬ g1 = g2 := by omega
  clear hg1 hg2
  refine (toPairS_any A n c zp _ HP_0.out (by omega)).mono ?_
  rintro e v1 ⟨A1, c1, rfl, Rx, b1⟩
  have f1 := bthen f0 b1
  have z1 := b1.size
  have HP_1 := Lib.hid (HP_0.out.below b1)
  have HQ_1 := Lib.hid (HQ_0.out.below b1)
  have Ha_1 := Lib.hid (Ha_0.out.below b1)
  have Hr_1 := Lib.hid (Hr_0.out.below b1)
  have Ho_1 := Lib.hid (Ho_0.out.below b1)
  clear HP_0 HQ_0 Ha_0 Hr_0 Ho_0
  have Hx_1 := Lib.hid Rx
  clear Rx
  have Lx := Lib.hid (Hx_1.out.lt)
  have lt_a := Ha_1.out.lt
  have r_a0 : v1.cell? ⟨w.heap.size, 0, none⟩ = some (.int .i64 i0) := Ha_1.out.cell 0
  have r_a1 : v1.cell? ⟨w.heap.size, 1, none⟩ = some (.int .i64 t0) := Ha_1.out.cell 1
  have r_a2 : v1.cell? ⟨w.heap.size, 2, none⟩ = some (.slice A n c) := Ha_1.out.cell 2
  have r_a3 : v1.cell? ⟨w.heap.size, 3, none⟩ = some (.slice B m d) := Ha_1.out.cell 3
  have r_a4 : v1.cell? ⟨w.heap.size, 4, none⟩ = some (.int .i64 l0) := Ha_1.out.cell 4
  have r_a5 : v1.cell? ⟨w.heap.size, 5, none⟩ = some (.int .i64 l1) := Ha_1.out.cell 5
  have r_a6 : v1.cell? ⟨w.heap.size, 6, none⟩ = some (.int .i64 l2) := Ha_1.out.cell 6
  have z_o0 := Ho_1.out.frozen 0
  have z_o1 := Ho_1.out.frozen 1
  have z_o2 := Ho_1.out.frozen 2
  have z_o3 := Ho_1.out.frozen 3
  have z_o4 := Ho_1.out.frozen 4
  have z_o5 := Ho_1.out.frozen 5
  have z_o6 := Ho_1.out.frozen 6
  have lt_o := Ho_1.out.lt
  have r_o0 : v1.cell? ⟨g2, 0, none⟩ = some (.int .i64 i0) := Ho_1.out.cell 0
  have r_o1 : v1.cell? ⟨g2, 1, none⟩ = some (.int .i64 t0) := Ho_1.out.cell 1
  have r_o2 : v1.cell? ⟨g2, 2, none⟩ = some (.slice none 0 0) := Ho_1.out.cell 2
  have r_o3 : v1.cell? ⟨g2, 3, none⟩ = some (.slice none 0 0) := Ho_1.out.cell 3
  have r_o4 : v1.cell? ⟨g2, 4, none⟩ = some (.int .i64 0) := Ho_1.out.cell 4
  have r_o5 : v1.cell? ⟨g2, 5, none⟩ = some (.int .i64 0) := Ho_1.out.cell 5
  have r_o6 : v1.cell? ⟨g2, 6, none⟩ = some (.int .i64 0) := Ho_1.out.cell 6
  go_wp2_with fail
  refine calls_named ?_
  rintro v2 hv2
  have f2 : Below w.heap.size w v2 := by rw [hv2]; (repeat' (first | (with_reducible exact Below.refl _ _) | (with_reducible assumption) | (with_reducible refine Below.alloc ?_ ?_ _) | (with_reducible refine Below.drew ?_) | (with_reducible refine Below.setCell ?_ ?_ _) | (with_reducible refine bstep (by assumption) ?_ ?_) | (with_reducible exact Nat.le_refl _) | omega | (simp [*]; done) | (simp [*]; omega)))
  have z2 : v1.heap.size + 0 ≤ v2.heap.size := by rw [hv2]; simp [size_set]
  have HP_2 : Hid (Sl v2 2 A n zp) := by rw [hv2]; exact (HP_1.out).far (p := ⟨g2, 2, none⟩) (fun hn a ha => by have := HP_lt.out hn a ha; show a.block ≠ g2; omega) _
  have HQ_2 : Hid (Sl v2 5 B m zq) := by rw [hv2]; exact (HQ_1.out).far (p := ⟨g2, 2, none⟩) (fun hn a ha => by have := HQ_lt.out hn a ha; show a.block ≠ g2; omega) _
  have Ha_2 : Hid (Blk v2 w.heap.size 27 #[.int .i64 i0, .int .i64 t0, .slice A n c, .slice B m d, .int .i64 l0, .int .i64 l1, .int .i64 l2]) := by rw [hv2]; exact (Ha_1.out).far (p := ⟨g2, 2, none⟩) (show w.heap.size ≠ g2 by omega) _
  have Hr_2 : Hid (Blk v2 g1 37 #[.int .i64 0, .int .i64 0, .slice none 0 0, .slice none 0 0, .int .i64 0, .int .i64 0, .int .i64 0]) := by rw [hv2]; exact (Hr_1.out).far (p := ⟨g2, 2, none⟩) (show g1 ≠ g2 by omega) _
  have Ho_2 : Hid (Blk v2 g2 37 #[.int .i64 i0, .int .i64 t0, .slice A1 n c1, .slice none 0 0, .int .i64 0, .int .i64 0, .int .i64 0]) := by rw [hv2]; exact (Ho_1.out).set_ 2 _
  have Hx_2 : Hid (Row v2 v0.heap.size 106 2 A1 n c1 zp) := by rw [hv2]; exact (Hx_1.out).far (p := ⟨g2, 2, none⟩) (fun a ha => by have := (Hx_1.out).ge a ha; show a.block ≠ g2; omega) _
  clear lt_a r_a0 r_a1 r_a2 r_a3 r_a4 r_a5 r_a6 z_o0 z_o1 z_o2 z_o3 z_o4 z_o5 z_o6 lt_o r_o0 r_o1 r_o2 r_o3 r_o4 r_o5 r_o6
  clear hv2 HP_1 HQ_1 Ha_1 Hr_1 Ho_1 Hx_1
  refine (toJobS_any B m d zq _ HQ_2.out (by omega)).mono ?_
  rintro e v3 ⟨B1, d1, rfl, Ry, b3⟩
  have f3 := bthen f2 b3
  have z3 := b3.size
  have HP_3 := Lib.hid (HP_2.out.below b3)
  have HQ_3 := Lib.hid (HQ_2.out.below b3)
  have Ha_3 := Lib.hid (Ha_2.out.below b3)
  have Hr_3 := Lib.hid (Hr_2.out.below b3)
  have Ho_3 := Lib.hid (Ho_2.out.below b3)
  have Hx_3 := Lib.hid (Hx_2.out.below b3)
  clear HP_2 HQ_2 Ha_2 Hr_2 Ho_2 Hx_2
  have Hy_3 := Lib.hid Ry
  clear Ry
  have hap : ∀ a b, A1 = some a → B1 = some b → a.block ≠ b.block := fun a b ha hb => by
    have h1 := Lx.out a ha
    have h2 := Hy_3.out.ge b hb
    omega
  have HAP := Lib.hid hap
  clear hap
  have lt_a := Ha_3.out.lt
  have r_a0 : v3.cell? ⟨w.heap.size, 0, none⟩ = some (.int .i64 i0) := Ha_3.out.cell 0
  have r_a1 : v3.cell? ⟨w.heap.size, 1, none⟩ = some (.int .i64 t0) := Ha_3.out.cell 1
  have r_a2 : v3.cell? ⟨w.heap.size, 2, none⟩ = some (.slice A n c) := Ha_3.out.cell 2
  have r_a3 : v3.cell? ⟨w.heap.size, 3, none⟩ = some (.slice B m d) := Ha_3.out.cell 3
  have r_a4 : v3.cell? ⟨w.heap.size, 4, none⟩ = some (.int .i64 l0) := Ha_3.out.cell 4
  have r_a5 : v3.cell? ⟨w.heap.size, 5, none⟩ = some (.int .i64 l1) := Ha_3.out.cell 5
  have r_a6 : v3.cell? ⟨w.heap.size, 6, none⟩ = some (.int .i64 l2) := Ha_3.out.cell 6
  have z_o0 := Ho_3.out.frozen 0
  have z_o1 := Ho_3.out.frozen 1
  have z_o2 := Ho_3.out.frozen 2
  have z_o3 := Ho_3.out.frozen 3
  have z_o4 := Ho_3.out.frozen 4
  have z_o5 := Ho_3.out.frozen 5
  have z_o6 := Ho_3.out.frozen 6
  have lt_o := Ho_3.out.lt
  have r_o0 : v3.cell? ⟨g2, 0, none⟩ = some (.int .i64 i0) := Ho_3.out.cell 0
  have r_o1 : v3.cell? ⟨g2, 1, none⟩ = some (.int .i64 t0) := Ho_3.out.cell 1
  have r_o2 : v3.cell? ⟨g2, 2, none⟩ = some (.slice A1 n c1) := Ho_3.out.cell 2
  have r_o3 : v3.cell? ⟨g2, 3, none⟩ = some (.slice none 0 0) := Ho_3.out.cell 3
  have r_o4 : v3.cell? ⟨g2, 4, none⟩ = some (.int .i64 0) := Ho_3.out.cell 4
  have r_o5 : v3.cell? ⟨g2, 5, none⟩ = some (.int .i64 0) := Ho_3.out.cell 5
  have r_o6 : v3.cell? ⟨g2, 6, none⟩ = some (.int .i64 0) := Ho_3.out.cell 6
  go_wp2_with fail
  refine calls_named ?_
  rintro v4 hv4
  have f4 : Below w.heap.size w v4 := by rw [hv4]; (repeat' (first | (with_reducible exact Below.refl _ _) | (with_reducible assumption) | (with_reducible refine Below.alloc ?_ ?_ _) | (with_reducible refine Below.drew ?_) | (with_reducible refine Below.setCell ?_ ?_ _) | (with_reducible refine bstep (by assumption) ?_ ?_) | (with_reducible exact Nat.le_refl _) | omega | (simp [*]; done) | (simp [*]; omega)))
  have z4 : v3.heap.size + 0 ≤ v4.heap.size := by rw [hv4]; simp [size_set]
  have HP_4 : Hid (Sl v4 2 A n zp) := by rw [hv4]; exact (HP_3.out).far (p := ⟨g2, 3, none⟩) (fun hn a ha => by have := HP_lt.out hn a ha; show a.block ≠ g2; omega) _
  have HQ_4 : Hid (Sl v4 5 B m zq) := by rw [hv4]; exact (HQ_3.out).far (p := ⟨g2, 3, none⟩) (fun hn a ha => by have := HQ_lt.out hn a ha; show a.block ≠ g2; omega) _
  have Ha_4 : Hid (Blk v4 w.heap.size 27 #[.int .i64 i0, .int .i64 t0, .slice A n c, .slice B m d, .int .i64 l0, .int .i64 l1, .int .i64 l2]) := by rw [hv4]; exact (Ha_3.out).far (p := ⟨g2, 3, none⟩) (show w.heap.size ≠ g2 by omega) _
  have Hr_4 : Hid (Blk v4 g1 37 #[.int .i64 0, .int .i64 0, .slice none 0 0, .slice none 0 0, .int .i64 0, .int .i64 0, .int .i64 0]) := by rw [hv4]; exact (Hr_3.out).far (p := ⟨g2, 3, none⟩) (show g1 ≠ g2 by omega) _
  have Ho_4 : Hid (Blk v4 g2 37 #[.int .i64 i0, .int .i64 t0, .slice A1 n c1, .slice B1 m d1, .int .i64 0, .int .i64 0, .int .i64 0]) := by rw [hv4]; exact (Ho_3.out).set_ 3 _
  have Hx_4 : Hid (Row v4 v0.heap.size 106 2 A1 n c1 zp) := by rw [hv4]; exact (Hx_3.out).far (p := ⟨g2, 3, none⟩) (fun a ha => by have := (Hx_3.out).ge a ha; show a.block ≠ g2; omega) _
  have Hy_4 : Hid (Row v4 v2.heap.size 71 5 B1 m d1 zq) := by rw [hv4]; exact (Hy_3.out).far (p := ⟨g2, 3, none⟩) (fun a ha => by have := (Hy_3.out).ge a ha; show a.block ≠ g2; omega) _
  clear lt_a r_a0 r_a1 r_a2 r_a3 r_a4 r_a5 r_a6 z_o0 z_o1 z_o2 z_o3 z_o4 z_o5 z_o6 lt_o r_o0 r_o1 r_o2 r_o3 r_o4 r_o5 r_o6
  clear hv4 HP_3 HQ_3 Ha_3 Hr_3 Ho_3 Hx_3 Hy_3
  refine (toLease_any l0 l1 l2 _).mono ?_
  rintro e v5 ⟨rfl, b5⟩
  have f5 := bthen f4 b5
  have z5 := b5.size
  have HP_5 := Lib.hid (HP_4.out.below b5)
  have HQ_5 := Lib.hid (HQ_4.out.below b5)
  have Ha_5 := Lib.hid (Ha_4.out.below b5)
  have Hr_5 := Lib.hid (Hr_4.out.below b5)
  have Ho_5 := Lib.hid (Ho_4.out.below b5)
  have Hx_5 := Lib.hid (Hx_4.out.below b5)
  have Hy_5 := Lib.hid (Hy_4.out.below b5)
  clear HP_4 HQ_4 Ha_4 Hr_4 Ho_4 Hx_4 Hy_4
  have lt_a := Ha_5.out.lt
  have r_a0 : v5.cell? ⟨w.heap.size, 0, none⟩ = some (.int .i64 i0) := Ha_5.out.cell 0
  have r_a1 : v5.cell? ⟨w.heap.size, 1, none⟩ = some (.int .i64 t0) := Ha_5.out.cell 1
  have r_a2 : v5.cell? ⟨w.heap.size, 2, none⟩ = some (.slice A n c) := Ha_5.out.cell 2
  have r_a3 : v5.cell? ⟨w.heap.size, 3, none⟩ = some (.slice B m d) := Ha_5.out.cell 3
  have r_a4 : v5.cell? ⟨w.heap.size, 4, none⟩ = some (.int .i64 l0) := Ha_5.out.cell 4
  have r_a5 : v5.cell? ⟨w.heap.size, 5, none⟩ = some (.int .i64 l1) := Ha_5.out.cell 5
  have r_a6 : v5.cell? ⟨w.heap.size, 6, none⟩ = some (.int .i64 l2) := Ha_5.out.cell 6
  have z_o0 := Ho_5.out.frozen 0
  have z_o1 := Ho_5.out.frozen 1
  have z_o2 := Ho_5.out.frozen 2
  have z_o3 := Ho_5.out.frozen 3
  have z_o4 := Ho_5.out.frozen 4
  have z_o5 := Ho_5.out.frozen 5
  have z_o6 := Ho_5.out.frozen 6
  have lt_o := Ho_5.out.lt
  have r_o0 : v5.cell? ⟨g2, 0, none⟩ = some (.int .i64 i0) := Ho_5.out.cell 0
  have r_o1 : v5.cell? ⟨g2, 1, none⟩ = some (.int .i64 t0) := Ho_5.out.cell 1
  have r_o2 : v5.cell? ⟨g2, 2, none⟩ = some (.slice A1 n c1) := Ho_5.out.cell 2
  have r_o3 : v5.cell? ⟨g2, 3, none⟩ = some (.slice B1 m d1) := Ho_5.out.cell 3
  have r_o4 : v5.cell? ⟨g2, 4, none⟩ = some (.int .i64 0) := Ho_5.out.cell 4
  have r_o5 : v5.cell? ⟨g2, 5, none⟩ = some (.int .i64 0) := Ho_5.out.cell 5
  have r_o6 : v5.cell? ⟨g2, 6, none⟩ = some (.int .i64 0) := Ho_5.out.cell 6
  have z_r0 := Hr_5.out.frozen 0
  have z_r1 := Hr_5.out.frozen 1
  have z_r2 := Hr_5.out.frozen 2
  have z_r3 := Hr_5.out.frozen 3
  have z_r4 := Hr_5.out.frozen 4
  have z_r5 := Hr_5.out.frozen 5
  have z_r6 := Hr_5.out.frozen 6
  have lt_r := Hr_5.out.lt
  have r_r0 : v5.cell? ⟨g1, 0, none⟩ = some (.int .i64 0) := Hr_5.out.cell 0
  have r_r1 : v5.cell? ⟨g1, 1, none⟩ = some (.int .i64 0) := Hr_5.out.cell 1
  have r_r2 : v5.cell? ⟨g1, 2, none⟩ = some (.slice none 0 0) := Hr_5.out.cell 2
  have r_r3 : v5.cell? ⟨g1, 3, none⟩ = some (.slice none 0 0) := Hr_5.out.cell 3
  have r_r4 : v5.cell? ⟨g1, 4, none⟩ = some (.int .i64 0) := Hr_5.out.cell 4
  have r_r5 : v5.cell? ⟨g1, 5, none⟩ = some (.int .i64 0) := Hr_5.out.cell 5
  have r_r6 : v5.cell? ⟨g1, 6, none⟩ = some (.int .i64 0) := Hr_5.out.cell 6
  go_wp21
  refine bodyPost_ret (v := .agg #[.int .i64 i0, .int .i64 t0, .slice A1 n c1, .slice B1 m d1, .int .i64 l0, .int .i64 l1, .int .i64 l2]) (by simp [results, Tryz.results8, go_sem, *]) rfl ?_
  exact ⟨A1, c1, B1, d1, rfl, (((((((((((Hx_5.out).far (p := ⟨g2, 4, none⟩) (fun a ha => by have := (Hx_5.out).ge a ha; show a.block ≠ g2; omega) _).far (p := ⟨g2, 5, none⟩) (fun a ha => by have := (Hx_5.out).ge a ha; show a.block ≠ g2; omega) _).far (p := ⟨g2, 6, none⟩) (fun a ha => by have := (Hx_5.out).ge a ha; show a.block ≠ g2; omega) _).far (p := ⟨g1, 0, none⟩) (fun a ha => by have := (Hx_5.out).ge a ha; show a.block ≠ g1; omega) _).far (p := ⟨g1, 1, none⟩) (fun a ha => by have := (Hx_5.out).ge a ha; show a.block ≠ g1; omega) _).far (p := ⟨g1, 2, none⟩) (fun a ha => by have := (Hx_5.out).ge a ha; show a.block ≠ g1; omega) _).far (p := ⟨g1, 3, none⟩) (fun a ha => by have := (Hx_5.out).ge a ha; show a.block ≠ g1; omega) _).far (p := ⟨g1, 4, none⟩) (fun a ha => by have := (Hx_5.out).ge a ha; show a.block ≠ g1; omega) _).far (p := ⟨g1, 5, none⟩) (fun a ha => by have := (Hx_5.out).ge a ha; show a.block ≠ g1; omega) _).far (p := ⟨g1, 6, none⟩) (fun a ha => by have := (Hx_5.out).ge a ha; show a.block ≠ g1; omega) _).mono (by omega), (((((((((((Hy_5.out).far (p := ⟨g2, 4, none⟩) (fun a ha => by have := (Hy_5.out).ge a ha; show a.block ≠ g2; omega) _).far (p := ⟨g2, 5, none⟩) (fun a ha => by have := (Hy_5.out).ge a ha; show a.block ≠ g2; omega) _).far (p := ⟨g2, 6, none⟩) (fun a ha => by have := (Hy_5.out).ge a ha; show a.block ≠ g2; omega) _).far (p := ⟨g1, 0, none⟩) (fun a ha => by have := (Hy_5.out).ge a ha; show a.block ≠ g1; omega) _).far (p := ⟨g1, 1, none⟩) (fun a ha => by have := (Hy_5.out).ge a ha; show a.block ≠ g1; omega) _).far (p := ⟨g1, 2, none⟩) (fun a ha => by have := (Hy_5.out).ge a ha; show a.block ≠ g1; omega) _).far (p := ⟨g1, 3, none⟩) (fun a ha => by have := (Hy_5.out).ge a ha; show a.block ≠ g1; omega) _).far (p := ⟨g1, 4, none⟩) (fun a ha => by have := (Hy_5.out).ge a ha; show a.block ≠ g1; omega) _).far (p := ⟨g1, 5, none⟩) (fun a ha => by have := (Hy_5.out).ge a ha; show a.block ≠ g1; omega) _).far (p := ⟨g1, 6, none⟩) (fun a ha => by have := (Hy_5.out).ge a ha; show a.block ≠ g1; omega) _).mono (by omega), HAP.out, by (repeat' (first | (with_reducible exact Below.refl _ _) | (with_reducible assumption) | (with_reducible refine Below.alloc ?_ ?_ _) | (with_reducible refine Below.drew ?_) | (with_reducible refine Below.setCell ?_ ?_ _) | (with_reducible refine bstep (by assumption) ?_ ?_) | (with_reducible exact Nat.le_refl _) | omega | (simp [*]; done) | (simp [*]; omega)))⟩
set_option maxRecDepth 100000 in
set_option maxHeartbeats 2000000 in
theorem eqState_same (A A2 : Option Addr) (n c c2 : Nat) (B B2 : Option Addr) (m d d2 : Nat) (i0 t0 l0 l1 l2 : Int) (zp zq : List Int) (w : World) (hP : Sl w 2 A n zp) (hQ : Sl w 5 B m zq) (hU : Sl w 2 A2 n zp) (hW : Sl w 5 B2 m zq) (hm0 : n ≤ maxLen) (hm1 : m ≤ maxLen) :
    Calls Tryz.prog 11 #[.agg #[.int .i64 i0, .int .i64 t0, .slice A n c, .slice B m d, .int .i64 l0, .int .i64 l1, .int .i64 l2], .agg #[.int .i64 i0, .int .i64 t0, .slice A2 n c2, .slice B2 m d2, .int .i64 l0, .int .i64 l1, .int .i64 l2]] w fun e' w' => e' = .returned (.bool true) ∧ Below w.heap.size w w' := by
  have HP := Lib.hid hP
  have HQ := Lib.hid hQ
  have HU := Lib.hid hU
  have HW := Lib.hid hW
  clear hP hQ hU hW
  have ez := eqL_self zp
  have eq := eqL_self zq
  go_enter Tryz.func11, Tryz.ntmps11
  go_wp2_with fail
  refine calls_named ?_
  rintro v0 hv0
  have f0 : Below w.heap.size w v0 := by rw [hv0]; (repeat' (first | (with_reducible exact Below.refl _ _) | (with_reducible assumption) | (with_reducible refine Below.alloc ?_ ?_ _) | (with_reducible refine Below.drew ?_) | (with_reducible refine Below.setCell ?_ ?_ _) | (with_reducible refine bstep (by assumption) ?_ ?_) | (with_reducible exact Nat.le_refl _) | omega | (simp [*]; done) | (simp [*]; omega)))
  have z0 : w.heap.size + 2 ≤ v0.heap.size := by rw [hv0]; simp [size_set]
  have HP_0 := Lib.hid (HP.out.below f0)
  have HP_lt := Lib.hid (fun hn => HP.out.lt hn)
  have HQ_0 := Lib.hid (HQ.out.below f0)
  have HQ_lt := Lib.hid (fun hn => HQ.out.lt hn)
  have HU_0 := Lib.hid (HU.out.below f0)
  have HU_lt := Lib.hid (fun hn => HU.out.lt hn)
  have HW_0 := Lib.hid (HW.out.below f0)
  have HW_lt := Lib.hid (fun hn => HW.out.lt hn)
  have Ha_0 : Hid (Blk v0 w.heap.size 37 #[.int .i64 i0, .int .i64 t0, .slice A n c, .slice B m d, .int .i64 l0, .int .i64 l1, .int .i64 l2]) := by rw [hv0]; exact (Blk.new_at _ _ _ _ (by simp)).alloc _
  have Hb_0 : Hid (Blk v0 (w.heap.size + 1) 37 #[.int .i64 i0, .int .i64 t0, .slice A2 n c2, .slice B2 m d2, .int .i64 l0, .int .i64 l1, .int .i64 l2]) := by rw [hv0]; exact Blk.new_at _ _ _ _ (by simp)
  clear hv0
  generalize hg1 : w.heap.size + 1 = g1 at *
  have lg1 : w.heap.size < g1 := by omega
  have lgz : g1 < v0.heap.size := by omega
  have nq1x0 : ¬ g1 = w.heap.size := by omega
  have nq0x1 : ¬ w.heap.size = g1 := by omega
  clear hg1
  have lt_a := Ha_0.out.lt
  have r_a0 : v0.cell? ⟨w.heap.size, 0, none⟩ = some (.int .i64 i0) := Ha_0.out.cell 0
  have r_a1 : v0.cell? ⟨w.heap.size, 1, none⟩ = some (.int .i64 t0) := Ha_0.out.cell 1
  have r_a2 : v0.cell? ⟨w.heap.size, 2, none⟩ = some (.slice A n c) := Ha_0.out.cell 2
  have r_a3 : v0.cell? ⟨w.heap.size, 3, none⟩ = some (.slice B m d) := Ha_0.out.cell 3
  have r_a4 : v0.cell? ⟨w.heap.size, 4, none⟩ = some (.int .i64 l0) := Ha_0.out.cell 4
  have r_a5 : v0.cell? ⟨w.heap.size, 5, none⟩ = some (.int .i64 l1) := Ha_0.out.cell 5
  have r_a6 : v0.cell? ⟨w.heap.size, 6, none⟩ = some (.int .i64 l2) := Ha_0.out.cell 6
  have lt_b := Hb_0.out.lt
  have r_b0 : v0.cell? ⟨g1, 0, none⟩ = some (.int .i64 i0) := Hb_0.out.cell 0
  have r_b1 : v0.cell? ⟨g1, 1, none⟩ = some (.int .i64 t0) := Hb_0.out.cell 1
  have r_b2 : v0.cell? ⟨g1, 2, none⟩ = some (.slice A2 n c2) := Hb_0.out.cell 2
  have r_b3 : v0.cell? ⟨g1, 3, none⟩ = some (.slice B2 m d2) := Hb_0.out.cell 3
  have r_b4 : v0.cell? ⟨g1, 4, none⟩ = some (.int .i64 l0) := Hb_0.out.cell 4
  have r_b5 : v0.cell? ⟨g1, 5, none⟩ = some (.int .i64 l1) := Hb_0.out.cell 5
  have r_b6 : v0.cell? ⟨g1, 6, none⟩ = some (.int .i64 l2) := Hb_0.out.cell 6
  refine (eqPairS_any A A2 n n c c2 zp zp _ HP_0.out HU_0.out hm0 hm0).mono ?_
  rintro e v1 ⟨rfl, b1⟩
  have f1 := bthen f0 b1
  have z1 := b1.size
  have HP_1 := Lib.hid (HP_0.out.below b1)
  have HQ_1 := Lib.hid (HQ_0.out.below b1)
  have HU_1 := Lib.hid (HU_0.out.below b1)
  have HW_1 := Lib.hid (HW_0.out.below b1)
  have Ha_1 := Lib.hid (Ha_0.out.below b1)
  have Hb_1 := Lib.hid (Hb_0.out.below b1)
  clear lt_a r_a0 r_a1 r_a2 r_a3 r_a4 r_a5 r_a6 lt_b r_b0 r_b1 r_b2 r_b3 r_b4 r_b5 r_b6
  clear HP_0 HQ_0 HU_0 HW_0 Ha_0 Hb_0
  have lt_a := Ha_1.out.lt
  have r_a0 : v1.cell? ⟨w.heap.size, 0, none⟩ = some (.int .i64 i0) := Ha_1.out.cell 0
  have r_a1 : v1.cell? ⟨w.heap.size, 1, none⟩ = some (.int .i64 t0) := Ha_1.out.cell 1
  have r_a2 : v1.cell? ⟨w.heap.size, 2, none⟩ = some (.slice A n c) := Ha_1.out.cell 2
  have r_a3 : v1.cell? ⟨w.heap.size, 3, none⟩ = some (.slice B m d) := Ha_1.out.cell 3
  have r_a4 : v1.cell? ⟨w.heap.size, 4, none⟩ = some (.int .i64 l0) := Ha_1.out.cell 4
  have r_a5 : v1.cell? ⟨w.heap.size, 5, none⟩ = some (.int .i64 l1) := Ha_1.out.cell 5
  have r_a6 : v1.cell? ⟨w.heap.size, 6, none⟩ = some (.int .i64 l2) := Ha_1.out.cell 6
  have lt_b := Hb_1.out.lt
  have r_b0 : v1.cell? ⟨g1, 0, none⟩ = some (.int .i64 i0) := Hb_1.out.cell 0
  have r_b1 : v1.cell? ⟨g1, 1, none⟩ = some (.int .i64 t0) := Hb_1.out.cell 1
  have r_b2 : v1.cell? ⟨g1, 2, none⟩ = some (.slice A2 n c2) := Hb_1.out.cell 2
  have r_b3 : v1.cell? ⟨g1, 3, none⟩ = some (.slice B2 m d2) := Hb_1.out.cell 3
  have r_b4 : v1.cell? ⟨g1, 4, none⟩ = some (.int .i64 l0) := Hb_1.out.cell 4
  have r_b5 : v1.cell? ⟨g1, 5, none⟩ = some (.int .i64 l1) := Hb_1.out.cell 5
  have r_b6 : v1.cell? ⟨g1, 6, none⟩ = some (.int .i64 l2) := Hb_1.out.cell 6
  go_wp2_with fail
  refine (eqJobS_any B B2 m m d d2 zq zq _ HQ_1.out HW_1.out hm1 hm1).mono ?_
  rintro e v2 ⟨rfl, b2⟩
  have f2 := bthen f1 b2
  have z2 := b2.size
  have HP_2 := Lib.hid (HP_1.out.below b2)
  have HQ_2 := Lib.hid (HQ_1.out.below b2)
  have HU_2 := Lib.hid (HU_1.out.below b2)
  have HW_2 := Lib.hid (HW_1.out.below b2)
  have Ha_2 := Lib.hid (Ha_1.out.below b2)
  have Hb_2 := Lib.hid (Hb_1.out.below b2)
  clear lt_a r_a0 r_a1 r_a2 r_a3 r_a4 r_a5 r_a6 lt_b r_b0 r_b1 r_b2 r_b3 r_b4 r_b5 r_b6
  clear HP_1 HQ_1 HU_1 HW_1 Ha_1 Hb_1
  have lt_a := Ha_2.out.lt
  have r_a0 : v2.cell? ⟨w.heap.size, 0, none⟩ = some (.int .i64 i0) := Ha_2.out.cell 0
  have r_a1 : v2.cell? ⟨w.heap.size, 1, none⟩ = some (.int .i64 t0) := Ha_2.out.cell 1
  have r_a2 : v2.cell? ⟨w.heap.size, 2, none⟩ = some (.slice A n c) := Ha_2.out.cell 2
  have r_a3 : v2.cell? ⟨w.heap.size, 3, none⟩ = some (.slice B m d) := Ha_2.out.cell 3
  have r_a4 : v2.cell? ⟨w.heap.size, 4, none⟩ = some (.int .i64 l0) := Ha_2.out.cell 4
  have r_a5 : v2.cell? ⟨w.heap.size, 5, none⟩ = some (.int .i64 l1) := Ha_2.out.cell 5
  have r_a6 : v2.cell? ⟨w.heap.size, 6, none⟩ = some (.int .i64 l2) := Ha_2.out.cell 6
  have lt_b := Hb_2.out.lt
  have r_b0 : v2.cell? ⟨g1, 0, none⟩ = some (.int .i64 i0) := Hb_2.out.cell 0
  have r_b1 : v2.cell? ⟨g1, 1, none⟩ = some (.int .i64 t0) := Hb_2.out.cell 1
  have r_b2 : v2.cell? ⟨g1, 2, none⟩ = some (.slice A2 n c2) := Hb_2.out.cell 2
  have r_b3 : v2.cell? ⟨g1, 3, none⟩ = some (.slice B2 m d2) := Hb_2.out.cell 3
  have r_b4 : v2.cell? ⟨g1, 4, none⟩ = some (.int .i64 l0) := Hb_2.out.cell 4
  have r_b5 : v2.cell? ⟨g1, 5, none⟩ = some (.int .i64 l1) := Hb_2.out.cell 5
  have r_b6 : v2.cell? ⟨g1, 6, none⟩ = some (.int .i64 l2) := Hb_2.out.cell 6
  go_wp2_with fail
  have el := eqL_self [l0, l1, l2]
  refine (eqLease_any l0 l1 l2 l0 l1 l2 _).mono ?_
  rintro e v3 ⟨rfl, b3⟩
  have f3 := bthen f2 b3
  have z3 := b3.size
  have HP_3 := Lib.hid (HP_2.out.below b3)
  have HQ_3 := Lib.hid (HQ_2.out.below b3)
  have HU_3 := Lib.hid (HU_2.out.below b3)
  have HW_3 := Lib.hid (HW_2.out.below b3)
  have Ha_3 := Lib.hid (Ha_2.out.below b3)
  have Hb_3 := Lib.hid (Hb_2.out.below b3)
  clear lt_a r_a0 r_a1 r_a2 r_a3 r_a4 r_a5 r_a6 lt_b r_b0 r_b1 r_b2 r_b3 r_b4 r_b5 r_b6
  clear HP_2 HQ_2 HU_2 HW_2 Ha_2 Hb_2
  have lt_a := Ha_3.out.lt
  have r_a0 : v3.cell? ⟨w.heap.size, 0, none⟩ = some (.int .i64 i0) := Ha_3.out.cell 0
  have r_a1 : v3.cell? ⟨w.heap.size, 1, none⟩ = some (.int .i64 t0) := Ha_3.out.cell 1
  have r_a2 : v3.cell? ⟨w.heap.size, 2, none⟩ = some (.slice A n c) := Ha_3.out.cell 2
  have r_a3 : v3.cell? ⟨w.heap.size, 3, none⟩ = some (.slice B m d) := Ha_3.out.cell 3
  have r_a4 : v3.cell? ⟨w.heap.size, 4, none⟩ = some (.int .i64 l0) := Ha_3.out.cell 4
  have r_a5 : v3.cell? ⟨w.heap.size, 5, none⟩ = some (.int .i64 l1) := Ha_3.out.cell 5
  have r_a6 : v3.cell? ⟨w.heap.size, 6, none⟩ = some (.int .i64 l2) := Ha_3.out.cell 6
  have lt_b := Hb_3.out.lt
  have r_b0 : v3.cell? ⟨g1, 0, none⟩ = some (.int .i64 i0) := Hb_3.out.cell 0
  have r_b1 : v3.cell? ⟨g1, 1, none⟩ = some (.int .i64 t0) := Hb_3.out.cell 1
  have r_b2 : v3.cell? ⟨g1, 2, none⟩ = some (.slice A2 n c2) := Hb_3.out.cell 2
  have r_b3 : v3.cell? ⟨g1, 3, none⟩ = some (.slice B2 m d2) := Hb_3.out.cell 3
  have r_b4 : v3.cell? ⟨g1, 4, none⟩ = some (.int .i64 l0) := Hb_3.out.cell 4
  have r_b5 : v3.cell? ⟨g1, 5, none⟩ = some (.int .i64 l1) := Hb_3.out.cell 5
  have r_b6 : v3.cell? ⟨g1, 6, none⟩ = some (.int .i64 l2) := Hb_3.out.cell 6
  go_wp2
  go_ret
  exact ⟨rfl, f3⟩
end Go.Proofs.YtokklkmibjpjnaaGreat
namespace Go.Proofs.YtokklkmibjpjnaaGreat
set_option linter.unusedSimpArgs false
set_option linter.unusedVariables false
attribute [local go_sem] n_lt2 n_lt3 n_lt4 n_le2 n_le3
open Go.RowKit
attribute [local go_sem] Ext.cell Ext.frozen
set_option maxRecDepth 100000 in
set_option maxHeartbeats 400000 in
theorem toOp_any (a0 a1 a2 a3 a4 : Int) (w : World) :
    Calls Tryz.prog 39 #[.agg #[.int .i64 a0, .int .i64 a1, .int .i64 a2, .int .i64 a3, .int .i64 a4]] w fun e' w' => e' = .returned (.agg #[.int .i64 a0, .int .i64 a1, .int .i64 a2, .int .i64 a3, .int .i64 a4]) ∧ Below w.heap.size w w' := by
  go_enter Tryz.func39, Tryz.ntmps39
  go_wp2
  refine bodyPost_ret (v := .agg #[.int .i64 a0, .int .i64 a1, .int .i64 a2, .int .i64 a3, .int .i64 a4]) (by simp [results, Tryz.results39, go_sem]) rfl ⟨rfl, ?_⟩
  (repeat' (first | (with_reducible exact Below.refl _ _) | (with_reducible assumption) | (with_reducible refine Below.alloc ?_ ?_ _) | (with_reducible refine Below.drew ?_) | (with_reducible refine Below.setCell ?_ ?_ _) | (with_reducible refine bstep (by assumption) ?_ ?_) | (with_reducible exact Nat.le_refl _) | omega | (simp [*]; done) | (simp [*]; omega)))


theorem info_Op : (Tryz.prog.info? 41).map (fun i => (i.zero, i.size, i.bytes)) = some (some (.agg #[.int .i64 0, .int .i64 0, .int .i64 0, .int .i64 0, .int .i64 0]), 5, 40) := by kernel_rfl





end Go.Proofs.YtokklkmibjpjnaaGreat
namespace Go.Proofs.YtokklkmibjpjnaaGreat
set_option linter.unusedSimpArgs false
set_option linter.unusedVariables false
attribute [local go_sem] n_lt2 n_lt3 n_lt4 n_le2 n_le3
open Go.RowKit
attribute [local go_sem] Ext.cell Ext.frozen
set_option maxRecDepth 100000 in
set_option maxHeartbeats 8000000 in
theorem toEntry_any (a0 a1 a2 a3 a4 a5 a6 a7 a8 : Int) (w : World) :
    Calls Tryz.prog 9 #[.agg #[.int .i64 a0, .int .i64 a1, .int .i64 a2, .int .i64 a3, .int .i64 a4, .int .i64 a5, .int .i64 a6, .int .i64 a7, .int .i64 a8]] w fun e' w' => e' = .returned (.agg #[.int .i64 a0, .int .i64 a1, .int .i64 a2, .int .i64 a3, .int .i64 a4, .int .i64 a5, .int .i64 a6, .int .i64 a7, .int .i64 a8]) ∧ Below w.heap.size w w' := by
  go_enter Tryz.func9, Tryz.ntmps9
  go_wp2_with fail
  refine calls_named ?_
  rintro v0 hv0
  have f0 : Below w.heap.size w v0 := by rw [hv0]; (repeat' (first | (with_reducible exact Below.refl _ _) | (with_reducible assumption) | (with_reducible refine Below.alloc ?_ ?_ _) | (with_reducible refine Below.drew ?_) | (with_reducible refine Below.setCell ?_ ?_ _) | (with_reducible refine bstep (by assumption) ?_ ?_) | (with_reducible exact Nat.le_refl _) | omega | (simp [*]; done) | (simp [*]; omega)))
  have z0 : w.heap.size + 3 ≤ v0.heap.size := by rw [hv0]; simp [size_set]
  have Ha_0 : Hid (Blk v0 w.heap.size 31 #[.int .i64 a0, .int .i64 a1, .int .i64 a2, .int .i64 a3, .int .i64 a4, .int .i64 a5, .int .i64 a6, .int .i64 a7, .int .i64 a8]) := by rw [hv0]; exact ((Blk.new_at _ _ _ _ (by simp)).alloc _).alloc _
  have Hr_0 : Hid (Blk v0 (w.heap.size + 1) 43 #[.int .i64 0, .int .i64 0, .int .i64 0, .int .i64 0, .int .i64 0, .int .i64 0, .int .i64 0, .int .i64 0, .int .i64 0]) := by rw [hv0]; exact (Blk.new_at _ _ _ _ (by simp)).alloc _
  have Ho_0 : Hid (Blk v0 (w.heap.size + 1 + 1) 43 #[.int .i64 a0, .int .i64 a1, .int .i64 a2, .int .i64 a3, .int .i64 0, .int .i64 0, .int .i64 0, .int .i64 0, .int .i64 0]) := by rw [hv0]; exact Blk.new_at _ _ _ _ (by simp)
  clear hv0
  generalize hg2 : w.heap.size + 1 + 1 = g2 at *
  generalize hg1 : w.heap.size + 1 = g1 at *
  have lg1 : w.heap.size < g1 := by omega
  have lg2 : g1 < g2 := by omega
  have lgz : g2 < v0.heap.size := by omega
  have nq1x0 : ¬ g1 = w.heap.size := by omega
  have nq0x1 : ¬ w.heap.size = g1 := by omega
  have nq2x0 : ¬ g2 = w.heap.size := by omega
  have nq0x2 : ¬ w.heap.size = g2 := by omega
  have nq2x1 : ¬ g2 = g1 := by omega
  have nq1x2 : ¬ g1 = g2 := by omega
  clear hg1 hg2
  refine (toOp_any a4 a5 a6 a7 a8 _).mono ?_
  rintro e v1 ⟨rfl, b1⟩
  have f1 := bthen f0 b1
  have z1 := b1.size
  have Ha_1 := Lib.hid (Ha_0.out.below b1)
  have Hr_1 := Lib.hid (Hr_0.out.below b1)
  have Ho_1 := Lib.hid (Ho_0.out.below b1)
  clear Ha_0 Hr_0 Ho_0
  have lt_a := Ha_1.out.lt
  have r_a0 : v1.cell? ⟨w.heap.size, 0, none⟩ = some (.int .i64 a0) := Ha_1.out.cell 0
  have r_a1 : v1.cell? ⟨w.heap.size, 1, none⟩ = some (.int .i64 a1) := Ha_1.out.cell 1
  have r_a2 : v1.cell? ⟨w.heap.size, 2, none⟩ = some (.int .i64 a2) := Ha_1.out.cell 2
  have r_a3 : v1.cell? ⟨w.heap.size, 3, none⟩ = some (.int .i64 a3) := Ha_1.out.cell 3
  have r_a4 : v1.cell? ⟨w.heap.size, 4, none⟩ = some (.int .i64 a4) := Ha_1.out.cell 4
  have r_a5 : v1.cell? ⟨w.heap.size, 5, none⟩ = some (.int .i64 a5) := Ha_1.out.cell 5
  have r_a6 : v1.cell? ⟨w.heap.size, 6, none⟩ = some (.int .i64 a6) := Ha_1.out.cell 6
  have r_a7 : v1.cell? ⟨w.heap.size, 7, none⟩ = some (.int .i64 a7) := Ha_1.out.cell 7
  have r_a8 : v1.cell? ⟨w.heap.size, 8, none⟩ = some (.int .i64 a8) := Ha_1.out.cell 8
  have z_o0 := Ho_1.out.frozen 0
  have z_o1 := Ho_1.out.frozen 1
  have z_o2 := Ho_1.out.frozen 2
  have z_o3 := Ho_1.out.frozen 3
  have z_o4 := Ho_1.out.frozen 4
  have z_o5 := Ho_1.out.frozen 5
  have z_o6 := Ho_1.out.frozen 6
  have z_o7 := Ho_1.out.frozen 7
  have z_o8 := Ho_1.out.frozen 8
  have lt_o := Ho_1.out.lt
  have r_o0 : v1.cell? ⟨g2, 0, none⟩ = some (.int .i64 a0) := Ho_1.out.cell 0
  have r_o1 : v1.cell? ⟨g2, 1, none⟩ = some (.int .i64 a1) := Ho_1.out.cell 1
  have r_o2 : v1.cell? ⟨g2, 2, none⟩ = some (.int .i64 a2) := Ho_1.out.cell 2
  have r_o3 : v1.cell? ⟨g2, 3, none⟩ = some (.int .i64 a3) := Ho_1.out.cell 3
  have r_o4 : v1.cell? ⟨g2, 4, none⟩ = some (.int .i64 0) := Ho_1.out.cell 4
  have r_o5 : v1.cell? ⟨g2, 5, none⟩ = some (.int .i64 0) := Ho_1.out.cell 5
  have r_o6 : v1.cell? ⟨g2, 6, none⟩ = some (.int .i64 0) := Ho_1.out.cell 6
  have r_o7 : v1.cell? ⟨g2, 7, none⟩ = some (.int .i64 0) := Ho_1.out.cell 7
  have r_o8 : v1.cell? ⟨g2, 8, none⟩ = some (.int .i64 0) := Ho_1.out.cell 8
  have z_r0 := Hr_1.out.frozen 0
  have z_r1 := Hr_1.out.frozen 1
  have z_r2 := Hr_1.out.frozen 2
  have z_r3 := Hr_1.out.frozen 3
  have z_r4 := Hr_1.out.frozen 4
  have z_r5 := Hr_1.out.frozen 5
  have z_r6 := Hr_1.out.frozen 6
  have z_r7 := Hr_1.out.frozen 7
  have z_r8 := Hr_1.out.frozen 8
  have lt_r := Hr_1.out.lt
  have r_r0 : v1.cell? ⟨g1, 0, none⟩ = some (.int .i64 0) := Hr_1.out.cell 0
  have r_r1 : v1.cell? ⟨g1, 1, none⟩ = some (.int .i64 0) := Hr_1.out.cell 1
  have r_r2 : v1.cell? ⟨g1, 2, none⟩ = some (.int .i64 0) := Hr_1.out.cell 2
  have r_r3 : v1.cell? ⟨g1, 3, none⟩ = some (.int .i64 0) := Hr_1.out.cell 3
  have r_r4 : v1.cell? ⟨g1, 4, none⟩ = some (.int .i64 0) := Hr_1.out.cell 4
  have r_r5 : v1.cell? ⟨g1, 5, none⟩ = some (.int .i64 0) := Hr_1.out.cell 5
  have r_r6 : v1.cell? ⟨g1, 6, none⟩ = some (.int .i64 0) := Hr_1.out.cell 6
  have r_r7 : v1.cell? ⟨g1, 7, none⟩ = some (.int .i64 0) := Hr_1.out.cell 7
  have r_r8 : v1.cell? ⟨g1, 8, none⟩ = some (.int .i64 0) := Hr_1.out.cell 8
  go_wp21
  refine bodyPost_ret (v := .agg #[.int .i64 a0, .int .i64 a1, .int .i64 a2, .int .i64 a3, .int .i64 a4, .int .i64 a5, .int .i64 a6, .int .i64 a7, .int .i64 a8]) (by simp [results, Tryz.results9, go_sem, *]) rfl ⟨rfl, ?_⟩
  (repeat' (first | (with_reducible exact Below.refl _ _) | (with_reducible assumption) | (with_reducible refine Below.alloc ?_ ?_ _) | (with_reducible refine Below.drew ?_) | (with_reducible refine Below.setCell ?_ ?_ _) | (with_reducible refine bstep (by assumption) ?_ ?_) | (with_reducible exact Nat.le_refl _) | omega | (simp [*]; done) | (simp [*]; omega)))


theorem info_Entry : (Tryz.prog.info? 43).map (fun i => (i.zero, i.size, i.bytes)) = some (some (.agg #[.int .i64 0, .int .i64 0, .int .i64 0, .int .i64 0, .int .i64 0, .int .i64 0, .int .i64 0, .int .i64 0, .int .i64 0]), 9, 72) := by kernel_rfl





end Go.Proofs.YtokklkmibjpjnaaGreat
namespace Go.Proofs.YtokklkmibjpjnaaGreat
set_option linter.unusedSimpArgs false
set_option linter.unusedVariables false
attribute [local go_sem] n_lt2 n_lt3 n_lt4 n_le2 n_le3
open Go.ChangeShapes Go.WideShapes Go.ChangeAt Go.RowKit Go.Deep

/-- A number of 64 bits. -/
def I64 (z : Int) : Prop := -9223372036854775808 ≤ z ∧ z ≤ 9223372036854775807
theorem I64_of_wf {z : Int} (h : (Lit.int .i64 z).wf = true) : I64 z := by
  simp [Lit.wf, IntKind.min, IntKind.max, IntKind.signed, IntKind.bits] at h
  exact ⟨by omega, by omega⟩

/-- The fields lie one behind the other, from cell k to cell e. -/
def tiles (P : Program) : List Field → Nat → Nat → Bool
  | [], k, e => k == e
  | f :: fs, k, e => f.offset == k && tiles P fs (k + P.cellsOf f.type) e

/-- All leaves of the type are int64. -/
def flatB (P : Program) : Nat → TypeId → Bool
  | 0, _ => false
  | d + 1, t => match P.underlying t with
    | some (.int .i64) => P.cellsOf t == 1
    | some (.struct fs) => tiles P fs.toList 0 (P.cellsOf t) && fs.toList.all (fun f => flatB P d f.type)
    | _ => false

theorem tiles_le {P : Program} : ∀ (l : List Field) (k e : Nat), tiles P l k e = true → k ≤ e
  | [], k, e, h => by simp [tiles] at h; omega
  | f :: l, k, e, h => by
    simp only [tiles, Bool.and_eq_true] at h
    have := tiles_le l _ _ h.2
    omega

theorem tile_all {P : Program} (cs : List Value) (e : Nat) (hcs : cs.length = e) : ∀ (l : List Field) (k : Nat), tiles P l k e = true →
    (∀ f ∈ l, ∃ zs : List Int, (cs.drop f.offset).take (P.cellsOf f.type) = zs.map (Value.int .i64) ∧ zs.length = P.cellsOf f.type ∧ ∀ z ∈ zs, I64 z) →
    ∃ zs : List Int, cs.drop k = zs.map (Value.int .i64) ∧ zs.length + k = e ∧ ∀ z ∈ zs, I64 z
  | [], k, h, _ => by
    simp [tiles] at h
    exact ⟨[], by simp; omega, by simpa using h, by simp⟩
  | f :: l, k, h, hf => by
    simp only [tiles, Bool.and_eq_true, beq_iff_eq] at h
    obtain ⟨ho, ht⟩ := h
    obtain ⟨zs, hz, hn, hi⟩ := hf f (by simp)
    obtain ⟨zs', hz', hn', hi'⟩ := tile_all cs e hcs l _ ht (fun g hg => hf g (by simp [hg]))
    rw [ho] at hz
    refine ⟨zs ++ zs', ?_, by simp; omega, ?_⟩
    · rw [List.map_append, ← hz, ← hz', ← List.drop_drop, List.take_append_drop]
    · intro z hz
      rcases List.mem_append.1 hz with h | h
      · exact hi z h
      · exact hi' z h

section
variable {H : Type} {enc : TypeId × Value → H} {P : Program} {w : World} {base : Nat} {spare : Nat → Bool} {held : Bool}

theorem flat_trod : ∀ (d : Nat) (t : TypeId) (fuel : Nat) (cs : List Value) (x : DataW H × List MemPlace), flatB P d t = true → DataW.trod enc P w base spare held fuel t cs = some x →
    ∃ zs : List Int, cs = zs.map (Value.int .i64) ∧ zs.length = P.cellsOf t ∧ ∀ z ∈ zs, I64 z := by
  intro d
  induction d with
  | zero => intro t fuel cs x h; simp [flatB] at h
  | succ d ih =>
    intro t fuel cs x h hx
    unfold flatB at h
    split at h
    · rename_i ht
      obtain ⟨n, rfl, _, hw⟩ := DataW.trod_int ht hx
      exact ⟨[n], rfl, by simpa using (beq_iff_eq.1 h).symm, by simpa using I64_of_wf hw⟩
    · rename_i fs ht
      simp only [Bool.and_eq_true, List.all_eq_true] at h
      obtain ⟨xs, n, _, _, hlen, hxl, hf⟩ := DataW.trod_struct ht hx
      obtain ⟨zs, hz, hn, hi⟩ := tile_all cs _ hlen fs.toList 0 h.1 (by
        intro f hfm
        obtain ⟨i, hil, hfi⟩ := List.mem_iff_getElem.1 hfm
        have hil' : i < fs.size := by simpa using hil
        have hfi' : fs[i]? = some f := by
          rw [Array.getElem?_eq_getElem hil']
          simpa using hfi
        have h1 := hf i f hfi'
        rw [List.getElem?_eq_getElem (by omega)] at h1
        exact ih f.type n _ _ (h.2 f hfm) h1)
      exact ⟨zs, by simpa using hz, by simpa using hn, hi⟩
    · simp at h

/-- A struct by value. -/
theorem open_flat {r : Reach} {b0 : Nat} {t : TypeId} {fs : Array Field} {v : Value} {d : DataW H} {p : List MemPlace} (D : Nat) (ht : P.underlying t = some (.struct fs)) (hB : flatB P D t = true)
    (hv : Value.okWide P w r b0 t v) (h : DataW.Trod enc P w base spare held t v d p) :
    ∃ zs : List Int, v = .agg (zs.map (Value.int .i64)).toArray ∧ zs.length = P.cellsOf t ∧ ∀ z ∈ zs, I64 z := by
  obtain ⟨cs, rfl, hsz⟩ := okWide_struct ht hv
  obtain ⟨fuel, hf⟩ := h
  obtain ⟨zs, hz, hn, hi⟩ := flat_trod D t fuel _ _ hB hf
  have hz' : cs.toList = zs.map (Value.int .i64) := by simpa [Value.cells] using hz
  exact ⟨zs, by rw [← hz'], hn, hi⟩

/-- A number. -/
theorem open_i64 {r : Reach} {b0 : Nat} {t : TypeId} {v : Value} {d : DataW H} {p : List MemPlace} (ht : P.underlying t = some (.int .i64)) (hv : Value.okWide P w r b0 t v) (h : DataW.Trod enc P w base spare held t v d p) :
    ∃ z : Int, v = .int .i64 z ∧ I64 z := by
  obtain ⟨n, rfl, _, _, hw⟩ := open_int ht hv h
  exact ⟨n, rfl, I64_of_wf hw⟩

/-- The argument types of a law: each can be read again behind the call. -/
def kinds (P : Program) (ts : List TypeId) : Bool := ts.all fun t => P.readableRec t && decide (t < P.types.size)

theorem trodAll_kept (hl : laidOutB P = true) {W W' : World} (hb : Below W.heap.size W W') : ∀ {ts : List TypeId} {vs : List Value} {ds : List (DataW H)} {ps : List MemPlace}, kinds P ts = true →
    DataW.TrodAll enc P W 0 (fun _ => true) true ts vs ds ps → (∀ x ∈ ps, x.block < W.heap.size) → DataW.TrodAll enc P W' 0 (fun b => decide (b < W.heap.size)) true ts vs ds ps
  | [], [], [], _, _, h, _ => h
  | t :: ts, v :: vs, d :: ds, ps, hk, ⟨p, q, h1, h2, e⟩, hlt => by
    simp only [kinds, List.all_cons, Bool.and_eq_true, decide_eq_true_eq] at hk
    subst e
    exact ⟨p, q, Below.trod hl hk.1.1 hk.1.2 h1 hb (fun x hx => hlt x (by simp [hx])), trodAll_kept hl hb (by simpa [kinds] using hk.2) h2 (fun x hx => hlt x (by simp [hx])), rfl⟩

/-- The closing step of a law's row: the call has returned true and has left old memory as it was. -/
theorem law_post {f : Func} {s : ChangeSpec} {t : TypeId} {W W' : World} {args : Array Value} {ds gs : List (DataW H)} {before : List MemPlace}
    (hl : laidOutB P = true) (hk : kinds P f.params.toList = true) (hr : f.resultTypes.toList = [t]) (ht : P.underlying t = some .bool) (hv : s.vars = [])
    (hW : DataW.Whole enc P f.params.toList s.vars false W args.toList ds gs before) (hfn : s.fn H (ds ++ gs) = { results := [.lit (.bool true)], args := ds }) (hb : Below W.heap.size W W') :
    s.post enc P f false true false false W args (.bool true) W' := by
  have hlt := hW.lt
  have hW0 := hW
  obtain ⟨p, q, hA, hV, hpq, hfz, hnd⟩ := hW
  have hsz : f.resultTypes.size = 1 := by
    have := congrArg List.length hr
    simpa using this
  rw [hv] at hV
  have hgq : gs = [] ∧ q = [] := by
    cases gs with
    | nil => exact ⟨rfl, hV⟩
    | cons _ _ => exact hV.elim
  obtain ⟨rfl, rfl⟩ := hgq
  refine ⟨ds, [], before, [], p, [], hW0, ?_, ?_, ?_, hb.frame _, fun h => by cases h⟩
  · rw [hfn, hr, hsz]
    exact trodAll_mk1 (shut_bool ht true)
  · rw [hfn]
    exact trodAll_kept hl hb hk hA (fun x hx => hlt x (by rw [hpq]; simp [hx]))
  · rw [hv, hfn]
    rfl
end

theorem len1 {α : Type} {l : List α} (h : l.length = 1) : ∃ a, l = [a] := by
  match l, h with
  | [a], _ => exact ⟨a, rfl⟩
theorem len2 {α : Type} {l : List α} (h : l.length = 2) : ∃ a b, l = [a, b] := by
  match l, h with
  | [a, b], _ => exact ⟨a, b, rfl⟩
theorem len3 {α : Type} {l : List α} (h : l.length = 3) : ∃ a b c, l = [a, b, c] := by
  match l, h with
  | [a, b, c], _ => exact ⟨a, b, c, rfl⟩
theorem len4 {α : Type} {l : List α} (h : l.length = 4) : ∃ a b c d, l = [a, b, c, d] := by
  match l, h with
  | [a, b, c, d], _ => exact ⟨a, b, c, d, rfl⟩
theorem len5 {α : Type} {l : List α} (h : l.length = 5) : ∃ a b c d e, l = [a, b, c, d, e] := by
  match l, h with
  | [a, b, c, d, e], _ => exact ⟨a, b, c, d, e, rfl⟩

end Go.Proofs.YtokklkmibjpjnaaGreat
namespace Go.Proofs.YtokklkmibjpjnaaGreat
set_option linter.unusedSimpArgs false
set_option linter.unusedVariables false
attribute [local go_sem] n_lt2 n_lt3 n_lt4 n_le2 n_le3
open Go.ChangeShapes Go.WideShapes Go.ChangeAt Go.RowKit Go.Deep

section
variable {α : Type} (c : α → List Int) (s : Nat)
theorem flat_len (l : List α) (h : ∀ a ∈ l, (c a).length = s) : (l.flatMap c).length = l.length * s := by
  induction l with
  | nil => simp
  | cons a l ih =>
    rw [List.flatMap_cons, List.length_append, h a (by simp), ih (fun b hb => h b (by simp [hb])), List.length_cons, Nat.add_mul]
    omega
theorem flat_get : ∀ (l : List α) (_h : ∀ a ∈ l, (c a).length = s) (i j : Nat) (hi : i < l.length) (_hj : j < s), (l.flatMap c)[i * s + j]? = (c l[i])[j]?
  | [], _, i, _, hi, _ => by simp at hi
  | a :: l, h, 0, j, _, hj => by
    have ha : (c a).length = s := h a (by simp)
    rw [List.flatMap_cons, Nat.zero_mul, Nat.zero_add, List.getElem?_append_left (by omega)]
    rfl
  | a :: l, h, i + 1, j, hi, hj => by
    have ha : (c a).length = s := h a (by simp)
    rw [List.flatMap_cons, List.getElem?_append_right (by rw [ha, Nat.add_mul]; omega), ha]
    have e : (i + 1) * s + j - s = i * s + j := by rw [Nat.add_mul]; omega
    rw [e]
    exact flat_get l (fun b hb => h b (by simp [hb])) i j (by simpa using hi) hj
theorem flat_getD (l : List α) (h : ∀ a ∈ l, (c a).length = s) (i j : Nat) (hi : i < l.length) (hj : j < s) : (l.flatMap c).getD (i * s + j) 0 = (c l[i]).getD j 0 := by
  rw [List.getD_eq_getElem?_getD, List.getD_eq_getElem?_getD, flat_get c s l h i j hi hj]
end

theorem choose_zs {n : Nat} {Q : Nat → List Int → Prop} (h : ∀ i, i < n → ∃ zs, Q i zs) : ∃ Z : Nat → List Int, ∀ i, i < n → Q i (Z i) :=
  ⟨fun i => if hi : i < n then Classical.choose (h i hi) else [], fun i hi => by
    simp only [hi, dif_pos]
    exact Classical.choose_spec (h i hi)⟩

section
variable {H : Type} {enc : TypeId × Value → H} {P : Program} {w : World} {base : Nat} {spare : Nat → Bool} {held : Bool}

theorem trod_slice_flat {t e : TypeId} {s : Nat} {fuel : Nat} {cs : List Value} {x : DataW H × List MemPlace} (D : Nat) (ht : P.underlying t = some (.slice e)) (hB : flatB P D e = true) (hs : P.cellsOf e = s) (hs0 : 0 < s)
    (h : DataW.trod enc P w base spare held fuel t cs = some x) : ∃ A n cap zs, cs = [.slice A n cap] ∧ Sl w s A n zs ∧ n ≤ cap ∧ cap ≤ maxLen ∧ ∀ z ∈ zs, I64 z := by
  rcases open_slice ht h with ⟨rfl, _⟩ | ⟨a, len, cap, m, k, Dt, Pl, rfl, _, hl, hm, hmm, _, hi⟩
  · exact ⟨none, 0, 0, [], rfl, Sl.nil _ _ _, Nat.le_refl _, by simp, by simp⟩
  · have hlm : len ≤ m := by rw [hmm]; split <;> omega
    have hel : ∀ i, i < len → ∃ zs : List Int, zs.length = s ∧ (∀ z ∈ zs, I64 z) ∧ ∀ j, j < s → w.cell? (a.add (i * s + j)) = some (.int .i64 (zs.getD j 0)) := by
      intro i hil
      obtain ⟨cs', hc, ht'⟩ := hi i (by omega)
      rw [hs] at hc
      obtain ⟨zs, rfl, hn, h64⟩ := flat_trod D e _ _ _ hB ht'
      rw [hs] at hn
      obtain ⟨_, _, hat⟩ := World.cells?_some hc
      refine ⟨zs, hn, h64, fun j hj => ?_⟩
      have h1 := hat j hj
      rw [add_add] at h1
      rw [h1]
      exact ints_get zs j (by omega)
    obtain ⟨Z, hZ⟩ := choose_zs hel
    have hzl : ∀ i ∈ List.range len, (Z i).length = s := fun i hir => (hZ i (List.mem_range.1 hir)).1
    refine ⟨some a, len, cap, (List.range len).flatMap Z, rfl, ⟨?_, fun hn => ?_⟩, hl, hm, ?_⟩
    · rw [flat_len Z s _ hzl, List.length_range]
    · have hcell : ∀ j, j < len * s → w.cell? (a.add j) = some (.int .i64 (((List.range len).flatMap Z).getD j 0)) := by
        intro j hj
        have hi' : j / s < len := Nat.div_lt_of_lt_mul (by rwa [Nat.mul_comm])
        have hj' : j % s < s := Nat.mod_lt _ hs0
        have e : j / s * s + j % s = j := Nat.div_add_mod' j s
        have h1 := (hZ _ hi').2.2 _ hj'
        have h2 := flat_getD Z s (List.range len) hzl (j / s) (j % s) (by simpa using hi') hj'
        rw [e] at h1 h2
        rw [h1, h2]
        simp
      obtain ⟨b, off, spot⟩ := a
      have h0 := hcell 0 (Nat.mul_pos hn hs0)
      have hspot : spot = none := by simpa [Addr.add] using World.cell?_spot h0
      subst hspot
      refine ⟨b, off, rfl, ?_, fun j hj => by rw [← Go.WideShapes.add_plain]; exact hcell j hj⟩
      rw [Go.WideShapes.add_plain] at h0
      exact World.block_lt_of_cell? w ⟨b, off + 0, none⟩ h0
    · intro z hz
      obtain ⟨i, hir, hzi⟩ := List.mem_flatMap.1 hz
      exact (hZ i (List.mem_range.1 hir)).2.1 z hzi

/-- An argument that is a slice of such structs (or of int64). -/
theorem open_slice_flat {r : Reach} {b0 : Nat} {t e : TypeId} {s : Nat} {v : Value} {d : DataW H} {p : List MemPlace} (D : Nat) (ht : P.underlying t = some (.slice e)) (hB : flatB P D e = true) (hs : P.cellsOf e = s) (hs0 : 0 < s)
    (hv : Value.okWide P w r b0 t v) (h : DataW.Trod enc P w base spare held t v d p) : ∃ A n cap zs, v = .slice A n cap ∧ Sl w s A n zs ∧ n ≤ cap ∧ cap ≤ maxLen ∧ ∀ z ∈ zs, I64 z := by
  obtain ⟨a, len, cap, rfl⟩ := okWide_slice ht hv
  obtain ⟨fuel, hf⟩ := h
  obtain ⟨A, n, c, zs, hc, rest⟩ := trod_slice_flat D ht hB hs hs0 hf
  have e : Value.slice a len cap = .slice A n c := by simpa [Value.cells] using hc
  exact ⟨A, n, c, zs, e, rest⟩
end
end Go.Proofs.YtokklkmibjpjnaaGreat
namespace Go.Proofs.YtokklkmibjpjnaaGreat
set_option linter.unusedSimpArgs false
set_option linter.unusedVariables false
attribute [local go_sem] n_lt2 n_lt3 n_lt4 n_le2 n_le3
open Go.RowKit

structure Pr where
  k : Int
  v : Int
instance : Inhabited Pr := ⟨⟨0, 0⟩⟩
/-- A pair list, its numbers one behind the other. -/
def PR (l : List Pr) : List Int := l.flatMap fun p => [p.k, p.v]
theorem PR_len (l : List Pr) : (PR l).length = l.length * 2 := flat_len _ 2 l (fun _ _ => rfl)
theorem PR_get0 (l : List Pr) (i : Nat) (h : i < l.length) : (PR l).getD (i * 2) 0 = (l.getD i default).k := by
  have := flat_getD (fun p : Pr => [p.k, p.v]) 2 l (fun _ _ => rfl) i 0 h (by decide)
  simpa [PR, List.getD, h] using this
theorem PR_get1 (l : List Pr) (i : Nat) (h : i < l.length) : (PR l).getD (i * 2 + 1) 0 = (l.getD i default).v := by
  have := flat_getD (fun p : Pr => [p.k, p.v]) 2 l (fun _ _ => rfl) i 1 h (by decide)
  simpa [PR, List.getD, h] using this
theorem PR_append (a b : List Pr) : PR (a ++ b) = PR a ++ PR b := by simp [PR]
theorem PR_of : ∀ (n : Nat) (zs : List Int), zs.length = n * 2 → ∃ l : List Pr, l.length = n ∧ PR l = zs
  | 0, zs, h => ⟨[], rfl, by simpa [PR] using (List.eq_nil_of_length_eq_zero (by omega)).symm⟩
  | n + 1, [], h => by simp at h
  | n + 1, [_], h => by simp at h; omega
  | n + 1, a :: b :: zs, h => by
    obtain ⟨l, hl, he⟩ := PR_of n zs (by simp at h; omega)
    exact ⟨⟨a, b⟩ :: l, by simp [hl], by rw [← he]; rfl⟩
theorem PR_inj {a b : List Pr} (h : PR a = PR b) : a = b := by
  have hl : a.length = b.length := by
    have := congrArg List.length h
    rw [PR_len, PR_len] at this
    omega
  apply List.ext_getElem hl
  intro i h1 h2
  have e0 := PR_get0 a i h1
  have e1 := PR_get1 a i h1
  rw [h, PR_get0 b i h2] at e0
  rw [h, PR_get1 b i h2] at e1
  simp only [List.getD, List.getElem?_eq_getElem h1, List.getElem?_eq_getElem h2, Option.getD_some] at e0 e1
  cases ha : a[i]; cases hb : b[i]
  rw [ha, hb] at e0 e1
  simp only at e0 e1
  rw [e0, e1]
theorem sl_pairs {w : World} {A : Option Addr} {n : Nat} {l : List Pr} (h : Sl w 2 A n (PR l)) (hn : 0 < n) : ∃ b off, A = some ⟨b, off, none⟩ ∧ b < w.heap.size ∧
    ∀ i, i < n → w.cell? ⟨b, off + i * 2, none⟩ = some (.int .i64 (l.getD i default).k) ∧ w.cell? ⟨b, off + i * 2 + 1, none⟩ = some (.int .i64 (l.getD i default).v) := by
  have hl : l.length = n := by
    have := h.len
    rw [PR_len] at this
    omega
  obtain ⟨b, off, hA, hb, hc⟩ := h.at_ hn
  refine ⟨b, off, hA, hb, fun i hi => ⟨?_, ?_⟩⟩
  · rw [hc (i * 2) (by omega), PR_get0 l i (by omega)]
  · rw [Nat.add_assoc, hc (i * 2 + 1) (by omega), PR_get1 l i (by omega)]

def pairAt (l : List Pr) (i : Nat) : Bool := inB (l.getD i default).k 0 9 && (inB (l.getD i default).v 0 999 && (decide (i = 0) || decide ((l.getD (i-1) default).k < (l.getD i default).k)))
def pairsB (l : List Pr) : Bool := (List.range l.length).all (pairAt l)
theorem pairAt_eq {l : List Pr} {i : Nat} {x y x0 y0 : Int} (h : l.getD i default = ⟨x, y⟩) (h0 : l.getD (i - 1) default = ⟨x0, y0⟩) : pairAt l i = (inB x 0 9 && (inB y 0 999 && (decide (i = 0) || decide (x0 < x)))) := by
  unfold pairAt; rw [h, h0]
/-- A valid list has its keys one above the other: at most ten. -/
theorem pairs_key {l : List Pr} {m : Nat} (h : ∀ j, j < m → pairAt l j = true) : ∀ i, i < m → (i : Int) ≤ (l.getD i default).k ∧ (l.getD i default).k ≤ 9
  | 0, hi => by
    have := h 0 hi
    simp only [pairAt, Bool.and_eq_true, inB_iff] at this
    exact ⟨by simpa using this.1.1, this.1.2⟩
  | i + 1, hi => by
    have h1 := pairs_key h i (by omega)
    have := h (i + 1) hi
    simp only [pairAt, Bool.and_eq_true, Bool.or_eq_true, inB_iff, decide_eq_true_eq, Nat.add_sub_cancel] at this
    have h3 : (l.getD i default).k < (l.getD (i + 1) default).k := by
      rcases this.2.2 with h0 | h0
      · omega
      · exact h0
    exact ⟨by omega, this.1.2⟩
theorem pairsB_all {l : List Pr} (h : pairsB l = true) : ∀ j, j < l.length → pairAt l j = true := fun j hj => List.all_eq_true.1 h j (List.mem_range.2 hj)
theorem pairsB_len {l : List Pr} (h : pairsB l = true) : l.length ≤ 10 := by
  rcases Nat.lt_or_ge 10 l.length with h1 | h1
  · have := pairs_key (pairsB_all h) 10 h1
    omega
  · exact h1

attribute [local go_sem] Ext.cell Ext.frozen

set_option maxHeartbeats 400000 in
theorem pairsOk_any (A : Option Addr) (n cap : Nat) (l : List Pr) (w : World) (hS : Sl w 2 A n (PR l)) (hl : l.length = n) (hn : n ≤ maxLen) :
    Calls Tryz.prog 76 #[.slice A n cap] w fun e' w' => e' = .returned (.bool (pairsB l)) ∧ Below w.heap.size w w' := by
  have hL := Lib.hid hl
  have HS := Lib.hid hS
  clear hl hS
  unfold maxLen at hn
  go_enter Tryz.func76, Tryz.ntmps76
  go_wp2
  go_loopw [7] (fun i wr => ∃ k : Nat, k ≤ n ∧ i = .int .i64 k ∧ Below w.heap.size w wr ∧ Hid (∀ j, j < k → pairAt l j = true)) (fun i _ => n - (intOf i).toNat)
  case atStart => exact ⟨0, Nat.zero_le _, rfl, Below.refl _ _, fun j hj => absurd hj (by omega)⟩
  case round =>
    obtain ⟨k, hk, rfl, hbl, hall⟩ := hrel
    by_cases hlt : k < n
    · obtain ⟨b, off, rfl, hb, hcell⟩ := sl_pairs HS.out (by omega)
      have h0 := (hcell k hlt).1
      have h1 := (hcell k hlt).2
      have h2 := (hcell (k - 1) (by omega)).1
      clear hcell
      rw [← hbl.cell (by exact hb)] at h0 h1 h2
      generalize hp : l.getD k default = p at h0 h1
      generalize hp0 : l.getD (k - 1) default = p0 at h2
      obtain ⟨x, y⟩ := p
      obtain ⟨x0, y0⟩ := p0
      simp only at h0 h1 h2
      have H := Lib.hid (pairAt_eq hp hp0)
      clear hp hp0
      have hbr : b < wr.heap.size := Nat.lt_of_lt_of_le hb hbl.size
      go_wp2
      ((refine wp_region_ext (by kernel_rfl) (by kernel_rfl) ?_); (repeat (any_goals (first | go_big_quiet_step (first | (go_at_call 88; exact quiet_ext_same (keyOk_any _ _)) | (go_at_call 89; exact quiet_ext_same (valueOk_any _ _))) | (refine wpQuiet_step (fun K hK => ?_); go_simp; split <;> (refine hK _ ?_; clear hK K)) | quiet_step (first | (go_at_call 88; exact quiet_ext_same (keyOk_any _ _)) | (go_at_call 89; exact quiet_ext_same (valueOk_any _ _)))))); (all_goals (refine wpQuiet_nil ?_; rintro _ ⟨z, rfl⟩; have hb' := z.h; generalize z.w = w1 at hb' ⊢; clear z; (first | (have hb2 := bstep hb' hb hb.size; clear hb' hcb hfb hz1 hz2 hz3 hz4 hb; have hb := hb2; clear hb2) | (have hb := hb'; clear hb')); obtain ⟨hcb, hfb, hz1, hz2, hz3, hz4⟩ := bcell hb; (try simp only [World.size_alloc, World.size_setCell, World.size_drew, Nat.lt_add_one_iff, Nat.add_assoc, Nat.reduceAdd] at hz1 hz2 hz3 hz4))))
      all_goals go_wp2
      all_goals have hfr : Below w.heap.size w w1 := bstep hb (hbl.alloc hbl.size _) (by have := hbl.size; simp; omega)
      all_goals first
        | exact ⟨⟨k + 1, by omega, by go_num, hfr, upto_succ hall.out (by rw [H.out]; simp [*] <;> omega)⟩, by simp [intOf]; omega⟩
        | (go_ret
           have hf : pairAt l k = false := by rw [H.out]; simp [*] <;> omega
           exact ⟨ret_bool (a := false) (all_range_false (hL.out.symm ▸ hlt) hf).symm, hfr⟩)
    · have hkn : k = n := by omega
      subst hkn
      go_wp2
      go_ret
      exact ⟨ret_bool (a := true) (all_range_true (hL.out.symm ▸ hall.out)).symm, hbl⟩
def rightB (a b : Int) : Bool := inB a 0 9 && inB b 0 999
set_option maxHeartbeats 400000 in
theorem l14Right_any (a b : Int) (w : World) :
    Calls Tryz.prog 67 #[.agg #[.int .i64 a, .int .i64 b]] w fun e' w' => e' = .returned (.bool (rightB a b)) ∧ Below w.heap.size w w' := by
  go_enter Tryz.func67, Tryz.ntmps67
  go_wp2_with ((go_at_call 60; refine (l1In_any _ _ _ _).mono ?_; rintro e w' ⟨rfl, rfl⟩))
  all_goals (go_ret; exact ⟨ret_bool (by unfold rightB; (first | rfl | (simp [*]; done) | (subst_vars; simp [*]; done) | (simp_all; done))), by (repeat' (first | (with_reducible exact Below.refl _ _) | (with_reducible assumption) | (with_reducible refine Below.alloc ?_ ?_ _) | (with_reducible refine Below.drew ?_) | (with_reducible refine Below.setCell ?_ ?_ _) | (with_reducible refine bstep (by assumption) ?_ ?_) | (with_reducible exact Nat.le_refl _) | omega | (simp [*]; done) | (simp [*]; omega)))⟩)
set_option maxHeartbeats 400000 in
theorem specPairsOk_any (A : Option Addr) (n cap : Nat) (l : List Pr) (w : World) (hS : Sl w 2 A n (PR l)) (hl : l.length = n) (hn : n ≤ maxLen) :
    Calls Tryz.prog 62 #[.slice A n cap] w fun e' w' => e' = .returned (.bool (pairsB l)) ∧ Below w.heap.size w w' := by
  unfold maxLen at hn
  by_cases h10 : 10 < n
  · have hv : pairsB l = false := by
      rw [← Bool.not_eq_true]
      intro h
      have := pairsB_len h
      omega
    have h10' : (10 : Int) < (n : Int) := by omega
    clear hS hl
    go_enter Tryz.func62, Tryz.ntmps62
    go_wp2
    go_ret
    exact ⟨ret_bool hv.symm, Below.refl _ _⟩
  have h10' : (n : Int) ≤ 10 := by omega
  have hL := Lib.hid hl
  have HS := Lib.hid hS
  clear hl hS h10
  go_enter Tryz.func62, Tryz.ntmps62
  go_wp2
  go_loopw [3] (fun i wr => ∃ k : Nat, k ≤ n ∧ i = .int .i64 k ∧ Below w.heap.size w wr ∧ Hid (∀ j, j < k → pairAt l j = true)) (fun i _ => n - (intOf i).toNat)
  case atStart => exact ⟨0, Nat.zero_le _, rfl, Below.refl _ _, fun j hj => absurd hj (by omega)⟩
  case round =>
    obtain ⟨k, hk, rfl, hbl, hall⟩ := hrel
    by_cases hlt : k < n
    · obtain ⟨b, off, rfl, hb, hcell⟩ := sl_pairs HS.out (by omega)
      have h0 := (hcell k hlt).1
      have h1 := (hcell k hlt).2
      have h2 := (hcell (k - 1) (by omega)).1
      clear hcell
      rw [← hbl.cell (by exact hb)] at h0 h1 h2
      generalize hp : l.getD k default = p at h0 h1
      generalize hp0 : l.getD (k - 1) default = p0 at h2
      obtain ⟨x, y⟩ := p
      obtain ⟨x0, y0⟩ := p0
      simp only at h0 h1 h2
      have H := Lib.hid ((pairAt_eq hp hp0).trans (show _ = (rightB x y && (decide (k = 0) || decide (x0 < x))) by unfold rightB; rw [Bool.and_assoc]))
      clear hp hp0
      have hbr : b < wr.heap.size := Nat.lt_of_lt_of_le hb hbl.size
      go_wp2
      ((refine wp_region_ext (by kernel_rfl) (by kernel_rfl) ?_); (repeat (any_goals (first | go_big_quiet_step ((go_at_call 67; exact quiet_ext (l14Right_any _ _ _))) | (refine wpQuiet_step (fun K hK => ?_); go_simp; split <;> (refine hK _ ?_; clear hK K)) | quiet_step ((go_at_call 67; exact quiet_ext (l14Right_any _ _ _)))))); (all_goals (refine wpQuiet_nil ?_; rintro _ ⟨z, rfl⟩; have hb' := z.h; generalize z.w = w1 at hb' ⊢; clear z; (first | (have hb2 := bstep hb' hb hb.size; clear hb' hcb hfb hz1 hz2 hz3 hz4 hb; have hb := hb2; clear hb2) | (have hb := hb'; clear hb')); obtain ⟨hcb, hfb, hz1, hz2, hz3, hz4⟩ := bcell hb; (try simp only [World.size_alloc, World.size_setCell, World.size_drew, Nat.lt_add_one_iff, Nat.add_assoc, Nat.reduceAdd] at hz1 hz2 hz3 hz4))))
      all_goals go_wp2
      all_goals have hfr : Below w.heap.size w w1 := bstep hb hbl hbl.size
      all_goals first
        | exact ⟨⟨k + 1, by omega, by go_num, hfr, upto_succ hall.out (by rw [H.out]; simp [*] <;> omega)⟩, by simp [intOf]; omega⟩
        | (go_ret
           have hf : pairAt l k = false := by rw [H.out]; simp [*] <;> omega
           exact ⟨ret_bool (a := false) (all_range_false (hL.out.symm ▸ hlt) hf).symm, hfr⟩)
    · have hkn : k = n := by omega
      subst hkn
      go_wp2
      go_ret
      exact ⟨ret_bool (a := true) (all_range_true (hL.out.symm ▸ hall.out)).symm, hbl⟩
end Go.Proofs.YtokklkmibjpjnaaGreat
namespace Go.Proofs.YtokklkmibjpjnaaGreat
set_option linter.unusedSimpArgs false
set_option linter.unusedVariables false
attribute [local go_sem] n_lt2 n_lt3 n_lt4 n_le2 n_le3
open Go.RowKit

/-- The place of the first pair with this key, or the list's length. -/
def keyIx (l : List Pr) (key : Int) : Nat := l.findIdx (fun p => decide (p.k = key))
def keyAt (l : List Pr) (key : Int) : Int := if keyIx l key < l.length then (keyIx l key : Int) else -1
def valAt (l : List Pr) (key : Int) : Int × Bool := if keyIx l key < l.length then ((l.getD (keyIx l key) default).v, true) else (0, false)
def valueAtB (l : List Pr) (key : Int) : Int × Bool := if pairsB l = true then valAt l key else (0, false)
theorem keyIx_some {l : List Pr} {key : Int} {k : Nat} (hk : k < l.length) (hj : ∀ j, j < k → (l.getD j default).k ≠ key) (h : (l.getD k default).k = key) : keyIx l key = k := by
  unfold keyIx
  rw [List.findIdx_eq hk]
  refine ⟨?_, fun j hjk => ?_⟩
  · have : l.getD k default = l[k] := by simp [List.getD, hk]
    rw [this] at h
    simpa using h
  · have hj' := hj j hjk
    have : l.getD j default = l[j] := by simp [List.getD, Nat.lt_trans hjk hk]
    rw [this] at hj'
    simpa using hj'
theorem keyIx_none {l : List Pr} {key : Int} (hj : ∀ j, j < l.length → (l.getD j default).k ≠ key) : keyIx l key = l.length := by
  unfold keyIx
  rw [List.findIdx_eq_length]
  intro x hx
  obtain ⟨i, hi, rfl⟩ := List.getElem_of_mem hx
  have hj' := hj i hi
  have : l.getD i default = l[i] := by simp [List.getD, hi]
  rw [this] at hj'
  simpa using hj'
theorem keyAt_some {l : List Pr} {key : Int} {k : Nat} (hk : k < l.length) (hj : ∀ j, j < k → (l.getD j default).k ≠ key) (h : (l.getD k default).k = key) : keyAt l key = k := by
  unfold keyAt
  rw [keyIx_some hk hj h, if_pos hk]
theorem keyAt_none {l : List Pr} {key : Int} (hj : ∀ j, j < l.length → (l.getD j default).k ≠ key) : keyAt l key = -1 := by
  unfold keyAt
  rw [keyIx_none hj, if_neg (Nat.lt_irrefl _)]
theorem valAt_some {l : List Pr} {key : Int} {k : Nat} (hk : k < l.length) (hj : ∀ j, j < k → (l.getD j default).k ≠ key) (h : (l.getD k default).k = key) : valAt l key = ((l.getD k default).v, true) := by
  unfold valAt
  rw [keyIx_some hk hj h, if_pos hk]
theorem valAt_none {l : List Pr} {key : Int} (hj : ∀ j, j < l.length → (l.getD j default).k ≠ key) : valAt l key = (0, false) := by
  unfold valAt
  rw [keyIx_none hj, if_neg (Nat.lt_irrefl _)]
theorem below_upto {l : List Pr} {key : Int} {k : Nat} (h : ∀ j, j < k → (l.getD j default).k ≠ key) (hk : (l.getD k default).k ≠ key) : ∀ j, j < k + 1 → (l.getD j default).k ≠ key := fun j hj => by
  rcases Nat.lt_or_ge j k with h1 | h1
  · exact h j h1
  · obtain rfl : j = k := by omega
    exact hk
attribute [local go_sem] Ext.cell Ext.frozen

theorem pairKey_any (a b : Int) (w : World) :
    Calls Tryz.prog 117 #[.agg #[.int .i64 a, .int .i64 b]] w fun e' w' => e' = .returned (.int .i64 a) ∧ Below w.heap.size w w' := by
  go_enter Tryz.func117, Tryz.ntmps117
  go_wp2
  go_ret
  exact ⟨rfl, by (repeat' (first | (with_reducible exact Below.refl _ _) | (with_reducible assumption) | (with_reducible refine Below.alloc ?_ ?_ _) | (with_reducible refine Below.drew ?_) | (with_reducible refine Below.setCell ?_ ?_ _) | (with_reducible refine bstep (by assumption) ?_ ?_) | (with_reducible exact Nat.le_refl _) | omega | (simp [*]; done) | (simp [*]; omega)))⟩
set_option maxHeartbeats 400000 in
theorem isKey_any (x y key : Int) (p q : Nat) (w : World) (hp : w.cell? ⟨p, 0, none⟩ = some (.func (.func 117) #[] #[])) (hq : w.cell? ⟨q, 0, none⟩ = some (.int .i64 key)) (hpl : p < w.heap.size) (hql : q < w.heap.size) :
    Calls Tryz.prog 132 #[.agg #[.int .i64 x, .int .i64 y], .pointer (some ⟨p, 0, none⟩), .pointer (some ⟨q, 0, none⟩)] w fun e' w' => e' = .returned (.bool (decide (x = key))) ∧ Below w.heap.size w w' := by
  go_enter Tryz.func132, Tryz.ntmps132
  go_wp2
  ((refine wp_region_ext (by kernel_rfl) (by kernel_rfl) ?_); (repeat (any_goals (first | go_big_quiet_step ((go_at_call 117; exact quiet_ext (pairKey_any _ _ _))) | (refine wpQuiet_step (fun K hK => ?_); go_simp; split <;> (refine hK _ ?_; clear hK K)) | quiet_step ((go_at_call 117; exact quiet_ext (pairKey_any _ _ _)))))); (all_goals (refine wpQuiet_nil ?_; rintro _ ⟨z, rfl⟩; have hb' := z.h; generalize z.w = w1 at hb' ⊢; clear z; (first | (have hb2 := bstep hb' hb hb.size; clear hb' hcb hfb hz1 hz2 hz3 hz4 hb; have hb := hb2; clear hb2) | (have hb := hb'; clear hb')); obtain ⟨hcb, hfb, hz1, hz2, hz3, hz4⟩ := bcell hb; (try simp only [World.size_alloc, World.size_setCell, World.size_drew, Nat.lt_add_one_iff, Nat.add_assoc, Nat.reduceAdd] at hz1 hz2 hz3 hz4))))
  all_goals go_wp2
  all_goals go_ret
  all_goals exact ⟨ret_bool (by (first | rfl | (simp [*]; done) | (subst_vars; simp [*]; done) | (simp_all; done))), by (repeat' (first | (with_reducible exact Below.refl _ _) | (with_reducible assumption) | (with_reducible refine Below.alloc ?_ ?_ _) | (with_reducible refine Below.drew ?_) | (with_reducible refine Below.setCell ?_ ?_ _) | (with_reducible refine bstep (by assumption) ?_ ?_) | (with_reducible exact Nat.le_refl _) | omega | (simp [*]; done) | (simp [*]; omega)))⟩
end Go.Proofs.YtokklkmibjpjnaaGreat
namespace Go.Proofs.YtokklkmibjpjnaaGreat
set_option linter.unusedSimpArgs false
set_option linter.unusedVariables false
attribute [local go_sem] n_lt2 n_lt3 n_lt4 n_le2 n_le3
open Go.RowKit
attribute [local go_sem] Ext.cell Ext.frozen

set_option maxHeartbeats 800000 in
theorem indexPair_any (A : Option Addr) (n cap : Nat) (l : List Pr) (key : Int) (p q : Nat) (w : World) (hS : Sl w 2 A n (PR l)) (hl : l.length = n) (hn : n ≤ maxLen)
    (hp : w.cell? ⟨p, 0, none⟩ = some (.func (.func 117) #[] #[])) (hq : w.cell? ⟨q, 0, none⟩ = some (.int .i64 key)) (hpl : p < w.heap.size) (hql : q < w.heap.size) :
    Calls Tryz.prog 131 #[.slice A n cap, .func (.func 132) #[] #[.pointer (some ⟨p, 0, none⟩), .pointer (some ⟨q, 0, none⟩)]] w fun e' w' => e' = .returned (.int .i64 (keyAt l key)) ∧ Below w.heap.size w w' := by
  unfold maxLen at hn
  have hL := Lib.hid hl
  have HS := Lib.hid hS
  have HP := Lib.hid hp
  have HQ := Lib.hid hq
  clear hl hS hp hq
  go_enter Tryz.func131, Tryz.ntmps131
  go_wp2
  go_loopw [8] (fun i wr => ∃ k : Nat, k ≤ n ∧ i = .int .i64 k ∧ Below w.heap.size w wr ∧ Hid (∀ j, j < k → (l.getD j default).k ≠ key)) (fun i _ => n - (intOf i).toNat)
  case atStart => exact ⟨0, Nat.zero_le _, rfl, Below.refl _ _, fun j hj => absurd hj (by omega)⟩
  case round =>
    obtain ⟨k, hk, rfl, hbl, hall⟩ := hrel
    by_cases hlt : k < n
    · obtain ⟨b, off, rfl, hb, hcell⟩ := sl_pairs HS.out (by omega)
      have h0 := (hcell k hlt).1
      have h1 := (hcell k hlt).2
      clear hcell
      rw [← hbl.cell (by exact hb)] at h0 h1
      generalize hpk : l.getD k default = pk at h0 h1
      obtain ⟨x, y⟩ := pk
      simp only at h0 h1
      have H := Lib.hid hpk
      clear hpk
      have hbr : b < wr.heap.size := Nat.lt_of_lt_of_le hb hbl.size
      have c1 := isKey_any x y key p q wr ((hbl.cell (p := ⟨p, 0, none⟩) hpl).trans HP.out) ((hbl.cell (p := ⟨q, 0, none⟩) hql).trans HQ.out) (Nat.lt_of_lt_of_le hpl hbl.size) (Nat.lt_of_lt_of_le hql hbl.size)
      by_cases hx : x = key
      · simp only [hx, decide_true] at c1
        subst hx
        go_wp2_with fail
        refine c1.mono ?_
        rintro e w1 ⟨rfl, b1⟩
        go_wp2
        go_ret
        exact ⟨ret_int (keyAt_some (hL.out.symm ▸ hlt) hall.out (by rw [H.out])).symm, bstep b1 hbl hbl.size⟩
      · simp only [hx, decide_false] at c1
        go_wp2_with fail
        refine c1.mono ?_
        rintro e w1 ⟨rfl, b1⟩
        go_wp2
        exact ⟨⟨k + 1, by omega, by go_num, bstep b1 hbl hbl.size, below_upto hall.out (by rw [H.out]; exact hx)⟩, by simp [intOf]; omega⟩
    · have hkn : k = n := by omega
      subst hkn
      go_wp2
      go_ret
      exact ⟨ret_int (keyAt_none (hL.out.symm ▸ hall.out)).symm, hbl⟩
set_option maxHeartbeats 400000 in
theorem placePair_any (A : Option Addr) (n cap : Nat) (l : List Pr) (key : Int) (w : World) (hS : Sl w 2 A n (PR l)) (hl : l.length = n) (hn : n ≤ maxLen) :
    Calls Tryz.prog 116 #[.slice A n cap, .int .i64 key, .func (.func 117) #[] #[]] w fun e' w' => e' = .returned (.int .i64 (keyAt l key)) ∧ Below w.heap.size w w' := by
  generalize hv : keyAt l key = v
  go_enter Tryz.func116, Tryz.ntmps116
  go_wp2_with fail
  refine calls_named ?_
  rintro w1 hw1
  have b1 : Below w.heap.size w w1 := by rw [hw1]; (repeat' (first | (with_reducible exact Below.refl _ _) | (with_reducible assumption) | (with_reducible refine Below.alloc ?_ ?_ _) | (with_reducible refine Below.drew ?_) | (with_reducible refine Below.setCell ?_ ?_ _) | (with_reducible refine bstep (by assumption) ?_ ?_) | (with_reducible exact Nat.le_refl _) | omega | (simp [*]; done) | (simp [*]; omega)))
  have hq : w1.cell? ⟨w.heap.size, 0, none⟩ = some (.int .i64 key) := by rw [hw1]; simp [go_sem]
  have hp : w1.cell? ⟨w.heap.size + 1, 0, none⟩ = some (.func (.func 117) #[] #[]) := by rw [hw1]; simp [go_sem]
  have hs : w1.heap.size = w.heap.size + 2 := by rw [hw1]; simp
  clear hw1
  have c1 := indexPair_any A n cap l key (w.heap.size + 1) w.heap.size w1 (hS.below b1) hl hn hp hq (by omega) (by omega)
  rw [hv] at c1
  refine c1.mono ?_
  rintro e w2 ⟨rfl, b2⟩
  go_wp2
  go_ret
  exact ⟨rfl, bthen b1 b2⟩
set_option maxHeartbeats 800000 in
theorem specValueAt_any (A : Option Addr) (n cap : Nat) (l : List Pr) (key : Int) (w : World) (hS : Sl w 2 A n (PR l)) (hl : l.length = n) (hn : n ≤ maxLen) :
    Calls Tryz.prog 52 #[.slice A n cap, .int .i64 key] w fun e' w' => e' = .returned (.tuple #[.int .i64 (valueAtB l key).1, .bool (valueAtB l key).2]) ∧ Below w.heap.size w w' := by
  have c1 := specPairsOk_any A n cap l w hS hl hn
  by_cases hk : pairsB l = true
  · have hv : valueAtB l key = valAt l key := by unfold valueAtB; rw [if_pos hk]
    rw [hv]
    rw [hk] at c1
    clear hv
    unfold maxLen at hn
    have hL := Lib.hid hl
    have HS := Lib.hid hS
    clear hl hS hk
    go_enter Tryz.func52, Tryz.ntmps52
    go_wp2_with fail
    refine c1.mono ?_
    rintro e w1 ⟨rfl, b1⟩
    go_wp2
    go_loopw [6] (fun i wr => ∃ k : Nat, k ≤ n ∧ i = .int .i64 k ∧ Below w.heap.size w wr ∧ Hid (∀ j, j < k → (l.getD j default).k ≠ key)) (fun i _ => n - (intOf i).toNat)
    case atStart => exact ⟨0, Nat.zero_le _, rfl, b1, fun j hj => absurd hj (by omega)⟩
    case round =>
      obtain ⟨k, hk, rfl, hbl, hall⟩ := hrel
      by_cases hlt : k < n
      · obtain ⟨b, off, rfl, hb, hcell⟩ := sl_pairs HS.out (by omega)
        have h0 := (hcell k hlt).1
        have h1 := (hcell k hlt).2
        clear hcell
        rw [← hbl.cell (by exact hb)] at h0 h1
        generalize hpk : l.getD k default = pk at h0 h1
        obtain ⟨x, y⟩ := pk
        simp only at h0 h1
        have H := Lib.hid hpk
        clear hpk
        have hbr : b < wr.heap.size := Nat.lt_of_lt_of_le hb hbl.size
        by_cases hx : x = key
        · subst hx
          go_wp2
          have hva : valAt l x = (y, true) := by rw [valAt_some (hL.out.symm ▸ hlt) hall.out (by rw [H.out]), H.out]
          refine bodyPost_ret (v := .tuple #[.int .i64 y, .bool true]) (by simp [results, Tryz.results52, go_sem, *]) rfl ⟨by rw [hva], hbl⟩
        · have hx' : (x == key) = false := by simpa using hx
          go_wp2
          exact ⟨⟨k + 1, by omega, by go_num, hbl, below_upto hall.out (by rw [H.out]; exact hx)⟩, by simp [intOf]; omega⟩
      · have hkn : k = n := by omega
        subst hkn
        go_wp2
        have hva : valAt l key = (0, false) := valAt_none (hL.out.symm ▸ hall.out)
        refine bodyPost_ret (v := .tuple #[.int .i64 0, .bool false]) (by simp [results, Tryz.results52, go_sem, *]) rfl ⟨by rw [hva], hbl⟩
  · have hk' : pairsB l = false := by simpa using hk
    have hv : valueAtB l key = (0, false) := by unfold valueAtB; rw [if_neg hk]
    rw [hv]
    rw [hk'] at c1
    go_enter Tryz.func52, Tryz.ntmps52
    go_wp2_with fail
    refine c1.mono ?_
    rintro e w1 ⟨rfl, b1⟩
    go_wp2
    refine bodyPost_ret (v := .tuple #[.int .i64 0, .bool false]) (by simp [results, Tryz.results52, go_sem, *]) rfl ⟨rfl, b1⟩
end Go.Proofs.YtokklkmibjpjnaaGreat
namespace Go.Proofs.YtokklkmibjpjnaaGreat
set_option linter.unusedSimpArgs false
set_option linter.unusedVariables false
attribute [local go_sem] n_lt2 n_lt3 n_lt4 n_le2 n_le3
open Go.RowKit

theorem wpList_append_row {P : Program} {ops : Array Oper} {rest : List Oper} {o : Oper} {a : Act} {w : World} {Q : Exit → Act → World → Prop} (hgd : o.guard = none) (s x : Operand) (t : TypeId)
    (ho : o.op = .call { callee := .builtin .append, args := #[s, x], argTypes := #[t, t] })
    (e : TypeId) (z : Value) (size bytes : Nat) (ht : P.underlying t = some (.slice e)) (hinfo : (P.info? e).map (fun i => (i.zero, i.size, i.bytes)) = some (some z, size, bytes)) (hzs : z.cells.size = size) (hsz : 0 < size)
    (lo : Nat) (A : Option Addr) (n cap : Nat) (xs : List Int) (hs : a.eval s = .slice A n cap) (hR : Row w lo e size A n cap xs)
    (ad : Addr) (m c : Nat) (news : List Int) (hx : a.eval x = .slice (some ad) m c) (hl : news.length = m * size) (hnews : ∀ j u, (ints news)[j]? = some u → w.cell? (ad.add j) = some u)
    (h63 : n + m ≤ maxLen) (hbytes : (n + m) * bytes ≤ 140737488355328) (hlo : lo ≤ w.heap.size)
    (h : ∀ A' cap' w', Row w' lo e size A' (n + m) cap' (xs ++ news) → Below lo w w' → wpList P ops Q rest (a.put o.dst (.slice A' (n + m) cap')) w') :
    wpList P ops Q (o :: rest) a w := by
  obtain ⟨i, hi, hiz, his, hib⟩ : ∃ i, P.info? e = some i ∧ i.zero = some z ∧ i.size = size ∧ i.bytes = bytes := by
    cases hq : P.info? e with
    | none => rw [hq] at hinfo; simp at hinfo
    | some i =>
      rw [hq] at hinfo
      simp only [Option.map_some, Option.some.injEq, Prod.mk.injEq] at hinfo
      exact ⟨i, rfl, hinfo.1, hinfo.2.1, hinfo.2.2⟩
  refine wpList_append_own_at _ hgd s x t ho lo e i z size bytes ht hi hiz his hib hzs hsz _ n (ints xs) hs hR ad m c (ints news) hx (by rw [ints_length]; exact hl) hnews (ints_oneCell' news) h63 hbytes hlo ?_
  intro v' w' hown hg _ _
  rw [← ints_append] at hown
  have hb : Below lo w w' := (Below.refl lo w).grown hg hlo (fun k hk => by
    cases A with
    | none => simp [Value.ownBlock] at hk
    | some a0 =>
      simp only [Value.ownBlock, Option.some.injEq] at hk
      subst hk
      exact hR.ge a0 rfl)
  rcases hown.2 with ⟨rfl, h0⟩ | ⟨g, c', cur, rfl, _⟩
  · have hn0 : n + m = 0 := h0
    rw [hn0] at h hown
    exact h none 0 w' hown hb
  · exact h _ _ w' hown hb
end Go.Proofs.YtokklkmibjpjnaaGreat
namespace Go.Proofs.YtokklkmibjpjnaaGreat
set_option linter.unusedSimpArgs false
set_option linter.unusedVariables false
attribute [local go_sem] n_lt2 n_lt3 n_lt4 n_le2 n_le3
open Go.RowKit

theorem wpList_append_row2 {P : Program} {ops : Array Oper} {rest : List Oper} {o : Oper} {a : Act} {w : World} {Q : Exit → Act → World → Prop} (hgd : o.guard = none) (s x : Operand) (t : TypeId)
    (ho : o.op = .call { callee := .builtin .append, args := #[s, x], argTypes := #[t, t] })
    (e : TypeId) (z : Value) (size bytes : Nat) (ht : P.underlying t = some (.slice e)) (hinfo : (P.info? e).map (fun i => (i.zero, i.size, i.bytes)) = some (some z, size, bytes)) (hzs : z.cells.size = size) (hsz : 0 < size)
    (lo : Nat) (A : Option Addr) (n cap : Nat) (xs : List Int) (hs : a.eval s = .slice A n cap) (hR : Row w lo e size A n cap xs)
    (ad : Addr) (m c : Nat) (news : List Int) (hx : a.eval x = .slice (some ad) m c) (hl : news.length = m * size) (hnews : ∀ j u, (ints news)[j]? = some u → w.cell? (ad.add j) = some u)
    (h63 : n + m ≤ maxLen) (hbytes : (n + m) * bytes ≤ 140737488355328) (hlo : lo ≤ w.heap.size)
    (h : ∀ A' cap' w', Row w' lo e size A' (n + m) cap' (xs ++ news) → Below lo w w' → Wrote w w' A → (∀ a', A' = some a' → (∃ a, A = some a ∧ a.block = a'.block) ∨ a'.block = w.heap.size) → wpList P ops Q rest (a.put o.dst (.slice A' (n + m) cap')) w') :
    wpList P ops Q (o :: rest) a w := by
  obtain ⟨i, hi, hiz, his, hib⟩ : ∃ i, P.info? e = some i ∧ i.zero = some z ∧ i.size = size ∧ i.bytes = bytes := by
    cases hq : P.info? e with
    | none => rw [hq] at hinfo; simp at hinfo
    | some i =>
      rw [hq] at hinfo
      simp only [Option.map_some, Option.some.injEq, Prod.mk.injEq] at hinfo
      exact ⟨i, rfl, hinfo.1, hinfo.2.1, hinfo.2.2⟩
  refine wpList_append_own_at _ hgd s x t ho lo e i z size bytes ht hi hiz his hib hzs hsz _ n (ints xs) hs hR ad m c (ints news) hx (by rw [ints_length]; exact hl) hnews (ints_oneCell' news) h63 hbytes hlo ?_
  intro v' w' hown hg _ hloc
  have hw : Wrote w w' A := by cases A <;> exact hg
  rw [← ints_append] at hown
  have hb : Below lo w w' := (Below.refl lo w).grown hg hlo (fun k hk => by
    cases A with
    | none => simp [Value.ownBlock] at hk
    | some a0 =>
      simp only [Value.ownBlock, Option.some.injEq] at hk
      subst hk
      exact hR.ge a0 rfl)
  rcases hown.2 with ⟨rfl, h0⟩ | ⟨g, c', cur, rfl, _⟩
  · have hn0 : n + m = 0 := h0
    rw [hn0] at h hown
    exact h none 0 w' hown hb hw (by simp)
  · refine h _ _ w' hown hb hw (fun a' ha' => ?_)
    obtain rfl := Option.some.inj ha'
    rcases hloc with h1 | h1
    · cases A with
      | none => simp [Value.ownBlock] at h1
      | some a0 => exact .inl ⟨a0, rfl, by simpa [Value.ownBlock] using h1.symm⟩
    · exact .inr (by simpa [Value.ownBlock] using h1)
theorem cell_two_new (w : World) (x y : Value) (t : TypeId) : ∀ j u, [x, y][j]? = some u → (w.alloc (.cells #[x, y] t)).cell? ((⟨w.heap.size, 0, none⟩ : Addr).add j) = some u := by
  intro j u hj
  match j, hj with
  | 0, hj => simp at hj; subst hj; simp [Addr.add]
  | 1, hj => simp at hj; subst hj; simp [Addr.add]
end Go.Proofs.YtokklkmibjpjnaaGreat
namespace Go.Proofs.YtokklkmibjpjnaaGreat
set_option linter.unusedSimpArgs false
set_option linter.unusedVariables false
attribute [local go_sem] n_lt2 n_lt3 n_lt4 n_le2 n_le3
open Go.RowKit

def RetRowB (w : World) (E s n : Nat) (zs : List Int) (b : Bool) (e : Ending) (w' : World) : Prop := ∃ A cap, e = .returned (.tuple #[.slice A n cap, .bool b]) ∧ Row w' w.heap.size E s A n cap zs ∧ Below w.heap.size w w'
theorem row0p {w : World} {g lo : Nat} {E : TypeId} {s : Nat} (h : Blk w g E #[]) (hlo : lo ≤ g) : Row w lo E s (some ⟨g, 0, none⟩) 0 0 [] :=
  h.row hlo (by simp [maxLen]) (by simp) (by simp) (fun j hj => absurd hj (by omega))
theorem sl_news {w : World} {A : Option Addr} {n s : Nat} {zs : List Int} {ad : Addr} (h : Sl w s A n zs) (hA : A = some ad) : ∀ j u, (ints zs)[j]? = some u → w.cell? (ad.add j) = some u := fun j u hu => by
  have hj : j < zs.length := by
    rcases Nat.lt_or_ge j zs.length with h1 | h1
    · exact h1
    · rw [List.getElem?_eq_none (by rw [ints_length]; exact h1)] at hu
      cases hu
  have hlen := h.len
  have hn : 0 < n := by
    rcases Nat.eq_zero_or_pos n with h0 | h0
    · subst h0; omega
    · exact h0
  obtain ⟨b, off, hb, _, hc⟩ := h.at_ hn
  rw [hA] at hb
  obtain rfl := Option.some.inj hb
  have hadd : (⟨b, off, none⟩ : Addr).add j = ⟨b, off + j, none⟩ := by unfold Addr.add; split <;> simp_all
  rw [hadd, hc j (by omega), ← hu]
  exact (ints_get zs j hj).symm
def cutL (l : List Pr) (key : Int) : List Pr := l.filter (fun p => !decide (p.k = key))
theorem cutL_take {l : List Pr} {k : Nat} {key : Int} (h : k < l.length) : cutL (l.take (k + 1)) key = cutL (l.take k) key ++ (if (l.getD k default).k = key then [] else [l.getD k default]) := by
  unfold cutL
  rw [List.take_add_one, List.filter_append]
  congr 1
  simp only [List.getElem?_eq_getElem h, Option.toList_some, List.getD, Option.getD_some]
  by_cases hk : l[k].k = key <;> simp [hk]
theorem cutL_le (l : List Pr) (key : Int) : (cutL l key).length ≤ l.length := List.length_filter_le _ _
attribute [local go_sem] Ext.cell Ext.frozen

set_option maxRecDepth 100000 in
set_option maxHeartbeats 800000 in
theorem copyPairs_any (A : Option Addr) (n cap : Nat) (l : List Pr) (w : World) (hS : Sl w 2 A n (PR l)) (hl : l.length = n) (hn : n ≤ 1000) (hA : A = none → n = 0 ∧ cap = 0) :
    Calls Tryz.prog 80 #[.slice A n cap] w (RetRow w 106 2 n (PR l)) := by
  have R0 : Row (w.alloc (.cells #[] 106)) w.heap.size 106 2 (some ⟨w.heap.size, 0, none⟩) 0 0 [] := row0p (Blk.new w _ _) (Nat.le_refl _)
  have hnw := fun ad (h : A = some ad) => sl_news (hS.below ((Below.refl w.heap.size w).alloc (Nat.le_refl _) (.cells #[] 106))) h
  have hPl : (PR l).length = n * 2 := by rw [PR_len, hl]
  cases A with
  | none =>
    obtain ⟨rfl, rfl⟩ := hA rfl
    have hz : PR l = [] := List.eq_nil_of_length_eq_zero (by omega)
    rw [hz]
    obtain ⟨i0, hi0, hz0, hs0, hy0⟩ := info_parts info_Pair
    clear hnw hS hA hPl
    go_enter Tryz.func80, Tryz.ntmps80
    go_wp2_with (at_builtin; refine wpList_append_own_none rfl _ _ 33 rfl w.heap.size 106 i0 2 Tryz.underlying33 hi0 (.slice (some ⟨w.heap.size, 0, none⟩) 0 0) 0 [] rfl R0 rfl ?_)
    go_ret
    exact RetRow.mk R0 (by (repeat' (first | (with_reducible exact Below.refl _ _) | (with_reducible assumption) | (with_reducible refine Below.alloc ?_ ?_ _) | (with_reducible refine Below.drew ?_) | (with_reducible refine Below.setCell ?_ ?_ _) | (with_reducible refine bstep (by assumption) ?_ ?_) | (with_reducible exact Nat.le_refl _) | omega | (simp [*]; done) | (simp [*]; omega))))
  | some ad =>
    have hnw' := Lib.hid (hnw ad rfl)
    clear hnw hS hA
    go_enter Tryz.func80, Tryz.ntmps80
    go_wp2_with (at_builtin; refine wpList_append_row rfl _ _ 33 rfl 106 (.agg #[.int .i64 0, .int .i64 0]) 2 16 Tryz.underlying33 info_Pair (by first | kernel_rfl | simp [Value.cells]) (by decide) w.heap.size (some ⟨w.heap.size, 0, none⟩) 0 0 [] rfl R0 ad n cap (PR l) rfl hPl hnw'.out (by unfold maxLen; omega) (by omega) (by simp) ?_; intro A5 c5 w5 R5 B5)
    go_ret
    simp only [Nat.zero_add, List.nil_append] at R5 ⊢
    exact RetRow.mk R5 (((Below.refl w.heap.size w).alloc (Nat.le_refl _) _).trans B5)
set_option maxRecDepth 100000 in
set_option maxHeartbeats 2000000 in
theorem specCutOut_any (A : Option Addr) (n cap : Nat) (l : List Pr) (key : Int) (w : World) (hS : Sl w 2 A n (PR l)) (hl : l.length = n) (hn : n ≤ maxLen) :
    Calls Tryz.prog 30 #[.slice A n cap, .int .i64 key] w (if pairsB l = true then RetRowB w 106 2 (cutL l key).length (PR (cutL l key)) (decide ((cutL l key).length < n)) else RetRowB w 106 2 0 [] false) := by
  have c1 := specPairsOk_any A n cap l w hS hl hn
  by_cases hpa : pairsB l = true
  · have h10 : n ≤ 10 := by have := pairsB_len hpa; omega
    rw [if_pos hpa]
    rw [hpa] at c1
    have hL := Lib.hid hl
    have HS := Lib.hid hS
    clear hpa hl hS
    unfold maxLen at hn
    go_enter Tryz.func30, Tryz.ntmps30
    go_wp2_with fail
    refine c1.mono ?_
    rintro e w1 ⟨rfl, b1⟩
    go_wp2
    go_loopw [6, 7] (fun o i wr => ∃ k A0 n0 c0 zs, k ≤ n ∧ n0 ≤ k ∧ i = .int .i64 (k : Nat) ∧ o = .slice A0 n0 c0 ∧ Row wr w.heap.size 106 2 A0 n0 c0 zs ∧ Hid (zs = PR (cutL (l.take k) key)) ∧ Below w.heap.size w wr) (fun _ i _ => n - (intOf i).toNat)
    case atStart => exact ⟨0, _, _, _, _, by omega, Nat.le_refl _, rfl, rfl, row0p (Blk.new w1 _ _) b1.size, Lib.hid rfl, b1.alloc b1.size _⟩
    case round =>
      obtain ⟨k, A0, n0, c0, zs, hk, hn0, rfl, rfl, R, hz, hbl⟩ := hrel
      by_cases hlt : k < n
      · obtain ⟨b, off, rfl, hb, hcell⟩ := sl_pairs HS.out (by omega)
        have h0 := (hcell k hlt).1
        have h1 := (hcell k hlt).2
        clear hcell
        rw [← hbl.cell (by exact hb)] at h0 h1
        generalize hp : l.getD k default = p at h0 h1
        obtain ⟨x, y⟩ := p
        simp only at h0 h1
        have HP := Lib.hid hp
        clear hp
        have hbr : b < wr.heap.size := Nat.lt_of_lt_of_le hb hbl.size
        by_cases hx : x = key
        · subst hx
          have HE := Lib.hid (show PR (cutL (l.take (k + 1)) x) = PR (cutL (l.take k) x) by rw [cutL_take (hL.out.symm ▸ hlt), HP.out, if_pos rfl, List.append_nil])
          go_wp2
          exact ⟨⟨k + 1, A0, n0, c0, zs, by omega, by omega, by go_num, rfl, R, Lib.hid (by rw [HE.out, hz.out]), hbl⟩, by simp [intOf]; omega⟩
        · have hx' : (x == key) = false := by simpa using hx
          have HE := Lib.hid (show PR (cutL (l.take (k + 1)) key) = PR (cutL (l.take k) key) ++ [x, y] by rw [cutL_take (hL.out.symm ▸ hlt), HP.out, if_neg hx, PR_append]; rfl)
          go_wp2_with (at_builtin; refine wpList_append_row rfl _ _ 33 rfl 106 (.agg #[.int .i64 0, .int .i64 0]) 2 16 Tryz.underlying33 info_Pair (by first | kernel_rfl | simp [Value.cells]) (by decide) w.heap.size A0 n0 c0 zs rfl (World.ownsRow.alloc R _) ⟨wr.heap.size, 0, none⟩ 1 1 [x, y] rfl rfl (cell_two_new _ _ _ _) (by unfold maxLen; omega) (by omega) (by have := hbl.size; simp; omega) ?_; intro A5 c5 w5 R5 B5)
          exact ⟨⟨k + 1, A5, _, c5, _, by omega, by omega, by go_num, rfl, R5, Lib.hid (by rw [HE.out, hz.out]), (hbl.alloc hbl.size _).trans B5⟩, by simp [intOf]; omega⟩
      · have hkn : k = n := by omega
        subst hkn
        have hzz := hz.out
        rw [List.take_of_length_le (by have := hL.out; omega)] at hzz
        have hnn : n0 = (cutL l key).length := by
          have := R.len
          rw [hzz, PR_len] at this
          omega
        have HN := Lib.hid hnn
        clear hnn
        go_wp2
        refine bodyPost_ret (v := .tuple #[.slice A0 n0 c0, .bool (decide ((n0 : Int) < (k : Int)))]) (by simp [results, Tryz.results30, go_sem, *]) rfl ⟨A0, c0, ?_, ?_, hbl⟩
        · rw [← HN.out]; simp
        · rw [← HN.out, ← hzz]; exact R
  · have hpa' : pairsB l = false := by simpa using hpa
    rw [if_neg hpa]
    rw [hpa'] at c1
    go_enter Tryz.func30, Tryz.ntmps30
    go_wp2_with fail
    refine c1.mono ?_
    rintro e w1 ⟨rfl, b1⟩
    go_wp2
    refine bodyPost_ret (v := .tuple #[.slice (some ⟨w1.heap.size, 0, none⟩) 0 0, .bool false]) (by simp [results, Tryz.results30, go_sem, *]) rfl ⟨_, _, rfl, row0p (Blk.new w1 _ _) b1.size, b1.alloc b1.size _⟩
end Go.Proofs.YtokklkmibjpjnaaGreat
namespace Go.Proofs.YtokklkmibjpjnaaGreat
set_option linter.unusedSimpArgs false
set_option linter.unusedVariables false
attribute [local go_sem] n_lt2 n_lt3 n_lt4 n_le2 n_le3
open Go.RowKit

theorem pairs_up {l : List Pr} (h : pairsB l = true) : ∀ d i, i + d + 1 < l.length → (l.getD i default).k < (l.getD (i + d + 1) default).k
  | 0, i, hi => by
    have := pairsB_all h (i + 1) (by omega)
    simp only [pairAt, Bool.and_eq_true, Bool.or_eq_true, decide_eq_true_eq, Nat.add_sub_cancel] at this
    rcases this.2.2 with h0 | h0
    · omega
    · exact h0
  | d + 1, i, hi => by
    have h1 := pairs_up h d i (by omega)
    have h2 := pairs_up h 0 (i + d + 1) (by omega)
    exact Int.lt_trans h1 h2
theorem pairs_apart {l : List Pr} (h : pairsB l = true) : l.Pairwise (fun p q => p.k ≠ q.k) := by
  rw [List.pairwise_iff_getElem]
  intro i j hi hj hij
  have := pairs_up h (j - i - 1) i (by omega)
  rw [show i + (j - i - 1) + 1 = j by omega] at this
  simp only [List.getD, List.getElem?_eq_getElem hi, List.getElem?_eq_getElem hj, Option.getD_some] at this
  omega
theorem cutL_all {l : List Pr} {key : Int} (h : ∀ p ∈ l, p.k ≠ key) : cutL l key = l := by
  unfold cutL
  rw [List.filter_eq_self]
  intro p hp
  simpa using h p hp
theorem cutL_erase_of : ∀ {l : List Pr} {key : Int}, l.Pairwise (fun p q => p.k ≠ q.k) → cutL l key = l.eraseIdx (keyIx l key)
  | [], _, _ => rfl
  | p :: l, key, h => by
    rw [List.pairwise_cons] at h
    by_cases hp : p.k = key
    · have h0 : keyIx (p :: l) key = 0 := by simp [keyIx, List.findIdx_cons, hp]
      rw [h0, List.eraseIdx_cons_zero]
      have h1 : cutL (p :: l) key = cutL l key := by simp [cutL, hp]
      rw [h1]
      exact cutL_all (fun q hq => by rw [← hp]; exact (h.1 q hq).symm)
    · have h0 : keyIx (p :: l) key = keyIx l key + 1 := by simp [keyIx, List.findIdx_cons, hp]
      have h1 : cutL (p :: l) key = p :: cutL l key := by simp [cutL, hp]
      rw [h0, h1, List.eraseIdx_cons_succ, cutL_erase_of h.2]
theorem cutL_erase {l : List Pr} (key : Int) (h : pairsB l = true) : cutL l key = l.eraseIdx (keyIx l key) := cutL_erase_of (pairs_apart h)
end Go.Proofs.YtokklkmibjpjnaaGreat
namespace Go.Proofs.YtokklkmibjpjnaaGreat
set_option linter.unusedSimpArgs false
set_option linter.unusedVariables false
attribute [local go_sem] n_lt2 n_lt3 n_lt4 n_le2 n_le3
open Go.RowKit

theorem pairs_lt {l : List Pr} (h : pairsB l = true) : l.Pairwise (fun p q => p.k < q.k) := by
  rw [List.pairwise_iff_getElem]
  intro i j hi hj hij
  have := pairs_up h (j - i - 1) i (by omega)
  rw [show i + (j - i - 1) + 1 = j by omega] at this
  simpa only [List.getD, List.getElem?_eq_getElem hi, List.getElem?_eq_getElem hj, Option.getD_some] using this
theorem pairs_rng {l : List Pr} (h : pairsB l = true) : ∀ p ∈ l, 0 ≤ p.k ∧ p.k ≤ 9 := fun p hp => by
  obtain ⟨i, hi, rfl⟩ := List.getElem_of_mem hp
  have := pairs_key (pairsB_all h) i hi
  simp only [List.getD, List.getElem?_eq_getElem hi, Option.getD_some] at this
  omega
def look (l : List Pr) (key : Int) : Option Pr := l.find? (fun p => decide (p.k = key))
theorem look_cons (p : Pr) (l : List Pr) (key : Int) : look (p :: l) key = if p.k = key then some p else look l key := by
  unfold look
  rw [List.find?_cons]
  by_cases h : p.k = key <;> simp [h]
theorem look_key {l : List Pr} {key : Int} {p : Pr} (h : look l key = some p) : p.k = key ∧ p ∈ l := by
  unfold look at h
  exact ⟨by simpa using List.find?_some h, List.mem_of_find?_eq_some h⟩
theorem look_none {l : List Pr} {key : Int} (h : ∀ p ∈ l, p.k ≠ key) : look l key = none := by
  unfold look
  rw [List.find?_eq_none]
  intro p hp
  simpa using h p hp
theorem valAt_look (l : List Pr) (key : Int) : valAt l key = match look l key with | some p => (p.v, true) | none => (0, false) := by
  induction l with
  | nil => rfl
  | cons p l ih =>
    rw [look_cons]
    by_cases h : p.k = key
    · have : keyIx (p :: l) key = 0 := by simp [keyIx, List.findIdx_cons, h]
      simp [valAt, this, h]
    · have h1 : keyIx (p :: l) key = keyIx l key + 1 := by simp [keyIx, List.findIdx_cons, h]
      rw [if_neg h, ← ih]
      simp [valAt, h1]
theorem canon : ∀ (m : Nat) (a : Int) (l : List Pr), l.Pairwise (fun p q => p.k < q.k) → (∀ p ∈ l, a ≤ p.k ∧ p.k < a + m) → (List.range m).filterMap (fun j : Nat => look l (a + j)) = l
  | 0, a, l, _, h => by
    match l with
    | [] => rfl
    | p :: l => have := h p (by simp); omega
  | m + 1, a, l, hs, h => by
    have hstep : ∀ t : List Pr, (List.range m).filterMap (fun j : Nat => look t (a + (j + 1 : Nat))) = (List.range m).filterMap (fun j : Nat => look t (a + 1 + j)) := fun t => by
      congr 1
      funext j
      congr 1
      omega
    rw [List.range_succ_eq_map, List.filterMap_cons, List.filterMap_map]
    rw [show ((fun j : Nat => look l (a + j)) ∘ Nat.succ) = (fun j : Nat => look l (a + (j + 1 : Nat))) from rfl]
    match l with
    | [] =>
      rw [look_none (by simp), hstep]
      exact canon m (a + 1) [] List.Pairwise.nil (by simp)
    | p :: t =>
      rw [List.pairwise_cons] at hs
      by_cases hp : p.k = a
      · rw [look_cons, if_pos (by omega)]
        simp only
        congr 1
        have e : ∀ j : Nat, look (p :: t) (a + (j + 1 : Nat)) = look t (a + 1 + j) := fun j => by
          rw [look_cons, if_neg (by omega)]
          congr 1
          omega
        simp only [e]
        exact canon m (a + 1) t hs.2 (fun q hq => by
          have h1 := hs.1 q hq
          have h2 := h q (by simp [hq])
          omega)
      · have h0 := h p (by simp)
        rw [look_none (fun q hq => by
          rcases List.mem_cons.1 hq with rfl | hq
          · omega
          · have := hs.1 q hq
            omega), hstep]
        exact canon m (a + 1) (p :: t) (List.pairwise_cons.2 hs) (fun q hq => by
          have h2 := h q hq
          rcases List.mem_cons.1 hq with rfl | hq
          · omega
          · have := hs.1 q hq
            omega)

/-- The pair put at its place. -/
def putL : List Pr → Int → Int → List Pr
  | [], key, v => [⟨key, v⟩]
  | p :: t, key, v => if p.k < key then p :: putL t key v else if p.k = key then ⟨key, v⟩ :: t else ⟨key, v⟩ :: p :: t
theorem putL_look (l : List Pr) (key v k : Int) : look (putL l key v) k = if k = key then some ⟨key, v⟩ else look l k := by
  induction l with
  | nil =>
    rw [putL, look_cons]
    by_cases h : k = key
    · simp [h]
    · rw [if_neg (by simpa using Ne.symm h), if_neg h]
  | cons p t ih =>
    rw [putL]
    split
    · rename_i h1
      rw [look_cons, ih, look_cons]
      by_cases h : k = key
      · subst h
        rw [if_neg (by omega), if_pos rfl, if_pos rfl]
      · rw [if_neg h, if_neg h]
    · split
      · rename_i h1 h2
        rw [look_cons, look_cons]
        by_cases h : k = key
        · subst h; simp
        · rw [if_neg (by simpa using Ne.symm h), if_neg h, if_neg (by omega)]
      · rw [look_cons, look_cons]
        by_cases h : k = key
        · subst h; simp
        · rw [if_neg (by simpa using Ne.symm h), if_neg h]
theorem putL_mem {l : List Pr} {key v : Int} {q : Pr} (h : q ∈ putL l key v) : q = ⟨key, v⟩ ∨ q ∈ l := by
  induction l with
  | nil => rw [putL] at h; simpa using h
  | cons p t ih =>
    rw [putL] at h
    split at h
    · rcases List.mem_cons.1 h with rfl | h
      · exact .inr (by simp)
      · rcases ih h with h | h
        · exact .inl h
        · exact .inr (by simp [h])
    · split at h
      · rcases List.mem_cons.1 h with rfl | h
        · exact .inl rfl
        · exact .inr (by simp [h])
      · rcases List.mem_cons.1 h with rfl | h
        · exact .inl rfl
        · exact .inr h
theorem putL_lt {l : List Pr} (key v : Int) (h : l.Pairwise (fun p q => p.k < q.k)) : (putL l key v).Pairwise (fun p q => p.k < q.k) := by
  induction l with
  | nil => simp [putL]
  | cons p t ih =>
    rw [List.pairwise_cons] at h
    rw [putL]
    split
    · rename_i h1
      rw [List.pairwise_cons]
      refine ⟨fun q hq => ?_, ih h.2⟩
      rcases putL_mem hq with rfl | hq
      · exact h1
      · exact h.1 q hq
    · split
      · rename_i h1 h2
        rw [List.pairwise_cons]
        exact ⟨fun q hq => by have := h.1 q hq; show key < q.k; omega, h.2⟩
      · rename_i h1 h2
        rw [List.pairwise_cons, List.pairwise_cons]
        refine ⟨fun q hq => ?_, h⟩
        rcases List.mem_cons.1 hq with rfl | hq
        · show key < q.k; omega
        · have := h.1 q hq; show key < q.k; omega
theorem putL_len (l : List Pr) (key v : Int) : (putL l key v).length ≤ l.length + 1 := by
  induction l with
  | nil => simp [putL]
  | cons p t ih =>
    rw [putL]
    split
    · simpa using ih
    · split <;> simp
theorem putL_set : ∀ (k : Nat) (l : List Pr) (key v : Int), k < l.length → (∀ j, j < k → (l.getD j default).k < key) → (l.getD k default).k = key → putL l key v = l.set k ⟨key, v⟩
  | _, [], _, _, h, _, _ => by simp at h
  | 0, p :: t, key, v, _, _, he => by
    simp only [List.getD_cons_zero] at he
    rw [putL, if_neg (by omega), if_pos he]
    rfl
  | k + 1, p :: t, key, v, h, hj, he => by
    have h0 := hj 0 (by omega)
    simp only [List.getD_cons_zero] at h0
    rw [putL, if_pos h0, putL_set k t key v (by simpa using h) (fun j hjk => by simpa using hj (j + 1) (by omega)) (by simpa using he)]
    rfl
theorem putL_ins : ∀ (k : Nat) (l : List Pr) (key v : Int), k ≤ l.length → (∀ j, j < k → (l.getD j default).k < key) → (k < l.length → key < (l.getD k default).k) → putL l key v = l.take k ++ ⟨key, v⟩ :: l.drop k
  | 0, [], key, v, _, _, _ => rfl
  | 0, p :: t, key, v, _, _, he => by
    have he' := he (by simp)
    simp only [List.getD_cons_zero] at he'
    rw [putL, if_neg (by omega), if_neg (by omega)]
    rfl
  | k + 1, [], key, v, h, _, _ => by simp at h
  | k + 1, p :: t, key, v, h, hj, he => by
    have h0 := hj 0 (by omega)
    simp only [List.getD_cons_zero] at h0
    rw [putL, if_pos h0, putL_ins k t key v (by simpa using h) (fun j hjk => by simpa using hj (j + 1) (by omega)) (fun h' => by simpa using he (by simpa using h'))]
    rfl

/-- What the reference lists. -/
def putG (l : List Pr) (key v : Int) (j : Nat) : Option Pr := if (j : Int) = key then some ⟨j, v⟩ else if (valAt l j).2 = true then some ⟨j, (valAt l j).1⟩ else none
def putTo (l : List Pr) (key v : Int) (k : Nat) : List Pr := (List.range k).filterMap (putG l key v)
theorem putTo_succ (l : List Pr) (key v : Int) (k : Nat) : putTo l key v (k + 1) = putTo l key v k ++ (putG l key v k).toList := by
  unfold putTo
  rw [List.range_succ, List.filterMap_append]
  congr 1
theorem putTo_len (l : List Pr) (key v : Int) (k : Nat) : (putTo l key v k).length ≤ k := by
  unfold putTo
  exact Nat.le_trans (List.length_filterMap_le _ _) (by simp)
theorem putG_look (l : List Pr) (key v : Int) (j : Nat) : putG l key v j = look (putL l key v) (0 + (j : Int)) := by
  rw [putL_look, Int.zero_add]
  unfold putG
  by_cases h : (j : Int) = key
  · rw [if_pos h, if_pos h, h]
  · rw [if_neg h, if_neg h, valAt_look]
    cases hl : look l j with
    | none => simp
    | some p =>
      have := (look_key hl).1
      obtain ⟨k, u⟩ := p
      simp only at this ⊢
      rw [if_pos trivial, this]
theorem putTo_all {l : List Pr} {key v : Int} (h : pairsB l = true) (hk : 0 ≤ key ∧ key ≤ 9) : putTo l key v 10 = putL l key v := by
  have e : putG l key v = fun j : Nat => look (putL l key v) (0 + (j : Int)) := funext (putG_look l key v)
  unfold putTo
  rw [e]
  refine canon 10 0 (putL l key v) (putL_lt key v (pairs_lt h)) (fun p hp => ?_)
  rcases putL_mem hp with rfl | hp
  · show 0 ≤ key ∧ key < 0 + ((10 : Nat) : Int)
    omega
  · have := pairs_rng h p hp
    omega

/-- Put's two results. -/
def putR (l : List Pr) (key v : Int) : List Pr × Bool := if pairsB l = true then (if rightB key v = true then (putL l key v, true) else (l, false)) else ([], false)
theorem putR_len (l : List Pr) (key v : Int) : (putR l key v).1.length ≤ 11 := by
  unfold putR
  split
  · rename_i h
    have h1 := pairsB_len h
    split
    · have := putL_len l key v
      simp only; omega
    · simp only; omega
  · simp
theorem PR_take' (l : List Pr) (k : Nat) : PR (l.take k) = (PR l).take (k * 2) := by
  induction l generalizing k with
  | nil => simp [PR]
  | cons p l ih =>
    cases k with
    | zero => simp [PR]
    | succ k =>
      have := ih k
      rw [List.take_succ_cons, show (k + 1) * 2 = k * 2 + 1 + 1 by omega]
      simp only [PR, List.flatMap_cons, List.cons_append, List.nil_append, List.take_succ_cons] at this ⊢
      rw [this]
theorem PR_drop' (l : List Pr) (k : Nat) : PR (l.drop k) = (PR l).drop (k * 2) := by
  induction l generalizing k with
  | nil => simp [PR]
  | cons p l ih =>
    cases k with
    | zero => simp [PR]
    | succ k =>
      have := ih k
      rw [List.drop_succ_cons, show (k + 1) * 2 = k * 2 + 1 + 1 by omega]
      simp only [PR, List.flatMap_cons, List.cons_append, List.nil_append, List.drop_succ_cons] at this ⊢
      exact this
theorem PR_ins (l : List Pr) (k : Nat) (key v : Int) : PR (l.take k ++ ⟨key, v⟩ :: l.drop k) = (PR l).take (k * 2) ++ [key, v] ++ (PR l).drop (k * 2) := by
  rw [PR_append, PR_take', List.append_assoc]
  congr 1
  show [key, v] ++ PR (l.drop k) = _
  rw [PR_drop']
theorem PR_set_getD (l : List Pr) (k : Nat) (key v : Int) (hk : k < l.length) (he : (l.getD k default).k = key) (t : Nat) (ht : t < l.length * 2) : (PR (l.set k ⟨key, v⟩)).getD t 0 = if t = k * 2 + 1 then v else (PR l).getD t 0 := by
  have hlen : (l.set k ⟨key, v⟩).length = l.length := by simp
  have hi : t / 2 < l.length := by omega
  have hset : ∀ i, i < l.length → (l.set k ⟨key, v⟩).getD i default = if i = k then ⟨key, v⟩ else l.getD i default := fun i hi => by
    by_cases h : i = k
    · subst h; simp [List.getD, hi]
    · simp [List.getD, List.getElem?_set_ne (Ne.symm h), h]
  rcases Nat.mod_two_eq_zero_or_one t with h | h
  · have ht' : t = t / 2 * 2 := by omega
    rw [ht', PR_get0 _ _ (by rw [hlen]; exact hi), PR_get0 _ _ hi, if_neg (by omega), hset _ hi]
    split
    · rename_i h2; rw [h2]; exact he.symm
    · rfl
  · have ht' : t = t / 2 * 2 + 1 := by omega
    rw [ht', PR_get1 _ _ (by rw [hlen]; exact hi), PR_get1 _ _ hi, hset _ hi]
    by_cases h2 : t / 2 = k
    · rw [if_pos h2, if_pos (by omega)]
    · rw [if_neg h2, if_neg (by omega)]
end Go.Proofs.YtokklkmibjpjnaaGreat
