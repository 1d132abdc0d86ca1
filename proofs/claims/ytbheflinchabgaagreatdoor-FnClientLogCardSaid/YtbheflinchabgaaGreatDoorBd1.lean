/- Part 1 of what the claim rests on: Lib, A1, Flat, Mem, FlatS, C1, Set, Nm, Bk, C2, WantE, SGot, C5, Cp, C6, C7, C8, C3, SOp, SWant, Cl1, C9, SAck, App, C4, App2, Wr2, C10, C11, C13, Reg, SInt64, Cur, P1, P3, P4, SPair, P7, Cur2, DiceL, D6L, Sd1. No condition of its own. -/
import Derived.WalkKit
import Derived.WalkSpells
import Derived.WalkLawsBesides
import Derived.Deep.QuietTactic
import Derived.BigQuiet
import Derived.Below
import Derived.Lib.Hide
import Derived.Handy
import Derived.Test.YtbheflinchabgaaGreatDoorProg
import Derived.ProofKit
import Derived.Deep.Slices
import Derived.Maps.AppendAt
import Derived.Laws.IdiomCopy
import Derived.Lib.SliceRun
import Derived.Lib.AppendZerosOnto
import Derived.Laws.StructEq
import Derived.Deep.RegionHeldLaw
import Derived.Deep.RegionLawGrows
import Derived.OwnWalk
import Derived.Deep.AppendLies
import Derived.StillTailTactics
import Derived.Outline
import Derived.Laws.AppendOwnNone
import Derived.Laws.BitsAllLaws
namespace Go.Proofs.YtbheflinchabgaaGreatDoor
set_option linter.unusedSimpArgs false
set_option linter.unusedVariables false
open Go.RowKit

theorem n_lt2 (n : Nat) : (n < n + 1 + 1) = True := by simp; omega
theorem n_lt3 (n : Nat) : (n < n + 1 + 1 + 1) = True := by simp; omega
theorem n_lt4 (n : Nat) : (n < n + 1 + 1 + 1 + 1) = True := by simp; omega
theorem n_le2 (n : Nat) : (n ≤ n + 1 + 1) = True := by simp; omega
theorem n_le3 (n : Nat) : (n ≤ n + 1 + 1 + 1) = True := by simp; omega

/-- A world that is W but for new memory. -/
structure Ext (W : World) where
  w : World
  h : Below W.heap.size W w

instance (W : World) : Inhabited (Ext W) := ⟨⟨W, Below.refl _ _⟩⟩

theorem Ext.cell {W : World} (z : Ext W) (b o : Nat) (hb : b < W.heap.size) : z.w.cell? ⟨b, o, none⟩ = W.cell? ⟨b, o, none⟩ := z.h.cell (p := ⟨b, o, none⟩) hb
theorem Ext.frozen {W : World} (z : Ext W) (b o : Nat) (hb : b < W.heap.size) : z.w.frozen? ⟨b, o, none⟩ = W.frozen? ⟨b, o, none⟩ := z.h.frozen (p := ⟨b, o, none⟩) hb

/-- A frame, cell by cell: the walk uses it as two rules. -/
theorem bcell {W w1 : World} (hb : Below W.heap.size W w1) : (∀ b o, b < W.heap.size → w1.cell? ⟨b, o, none⟩ = W.cell? ⟨b, o, none⟩) ∧ (∀ b o, b < W.heap.size → w1.frozen? ⟨b, o, none⟩ = W.frozen? ⟨b, o, none⟩) ∧
    (∀ x, x < W.heap.size → x < w1.heap.size) ∧ (∀ x, x ≤ W.heap.size → x ≤ w1.heap.size) ∧ (∀ x k, x < W.heap.size → x < w1.heap.size + k) ∧ (∀ x k, x ≤ W.heap.size → x ≤ w1.heap.size + k) :=
  ⟨fun b o h => hb.cell (p := ⟨b, o, none⟩) h, fun b o h => hb.frozen (p := ⟨b, o, none⟩) h, fun _ h => Nat.lt_of_lt_of_le h hb.size, fun _ h => Nat.le_trans h hb.size, fun _ _ h => Nat.lt_of_lt_of_le h (Nat.le_trans hb.size (Nat.le_add_right _ _)), fun _ _ h => Nat.le_trans h (Nat.le_trans hb.size (Nat.le_add_right _ _))⟩

theorem below_drewN {B : Nat} {a w : World} (h : Below B a w) (n : Nat) : Below B a (w.drewN n) := ⟨h.os, h.tape, h.output, h.size, h.block⟩

/-- One call more. -/
theorem bstep {B : Nat} {a W w' : World} (h : Below W.heap.size W w') (h1 : Below B a W) (hB : B ≤ W.heap.size) : Below B a w' := h1.trans (h.mono hB)

/-- A region that draws its order, whose operations only read and whose callees make at most new memory: one walk in the order of the text. -/
theorem wp_region_ext {P : Program} {id : Nat} {Q : Exit → Act → World → Prop} {a : Act} {w : World} {l : List Oper} (hm : P.follows .mixedOrders = true) (hB : Region.lexB .any l.toArray = true)
    (h : wpQuiet P l.toArray (fun w' => ∃ z : Ext w, w' = z.w) (fun a' => ∀ w', (∃ z : Ext w, w' = z.w) → Q .normal a' w') l a) : (Code.region id l.toArray true).wp P Q a w :=
  wp_region_quiet (C := fun w' => ∃ z : Ext w, w' = z.w) hm hB ⟨⟨{ w with drawn := w.drawn + 1 }, ⟨rfl, rfl, rfl, Nat.le_refl _, fun _ _ => rfl⟩⟩, rfl⟩ (by simpa using h)

/-- A callee's contract inside such a region. -/
theorem quiet_ext {P : Program} {f : FuncId} {args : Array Value} {W : World} {z : Ext W} {v : Value}
    (h : Calls P f args z.w fun e w' => e = .returned v ∧ Below z.w.heap.size z.w w') : Calls P f args z.w fun e w'' => e = .returned v ∧ ∃ z' : Ext W, w'' = z'.w :=
  h.mono fun _ w'' ⟨he, hm⟩ => ⟨he, ⟨w'', bstep hm z.h z.h.size⟩, rfl⟩
theorem quiet_ext_same {P : Program} {f : FuncId} {args : Array Value} {W : World} {z : Ext W} {v : Value}
    (h : Calls P f args z.w fun e w' => e = .returned v ∧ z.w = w') : Calls P f args z.w fun e w'' => e = .returned v ∧ ∃ z' : Ext W, w'' = z'.w :=
  h.mono fun _ _ ⟨he, hm⟩ => ⟨he, z, hm.symm⟩

theorem ret_bool {a b : Bool} (h : a = b) : Ending.returned (.bool a) = .returned (.bool b) := by rw [h]
theorem all_range_false {n k : Nat} {f : Nat → Bool} (hk : k < n) (hf : f k = false) : (List.range n).all f = false := by
  rw [List.all_eq_false]
  exact ⟨k, List.mem_range.2 hk, by simp [hf]⟩
theorem all_range_true {n : Nat} {f : Nat → Bool} (h : ∀ j, j < n → f j = true) : (List.range n).all f = true := by
  rw [List.all_eq_true]
  exact fun j hj => h j (List.mem_range.1 hj)
theorem upto_succ {k : Nat} {f : Nat → Bool} (h : ∀ j, j < k → f j = true) (hk : f k = true) : ∀ j, j < k + 1 → f j = true := fun j hj => by
  rcases Nat.lt_or_ge j k with h1 | h1
  · exact h j h1
  · obtain rfl : j = k := by omega
    exact hk

end Go.Proofs.YtbheflinchabgaaGreatDoor
namespace Go.Proofs.YtbheflinchabgaaGreatDoor
set_option linter.unusedSimpArgs false
set_option linter.unusedVariables false
attribute [local go_sem] n_lt2 n_lt3 n_lt4 n_le2 n_le3
open Go.RowKit

def inB (x lo hi : Int) : Bool := decide (lo ≤ x) && decide (x ≤ hi)
theorem inB_iff (x lo hi : Int) : inB x lo hi = true ↔ lo ≤ x ∧ x ≤ hi := by unfold inB; simp

theorem between_any (x lo hi : Int) (w : World) :
    Calls Tryz.prog 59 #[.int .i64 x, .int .i64 lo, .int .i64 hi] w fun e w' => e = .returned (.bool (inB x lo hi)) ∧ w = w' := by
  have hx : inB x lo hi = (decide (lo ≤ x) && decide (x ≤ hi)) := rfl
  rw [hx]; clear hx
  by_cases h1 : lo ≤ x
  · have e1 : decide (lo ≤ x) = true := by simpa using h1
    go_enter Tryz.func59, Tryz.ntmps59
    go_wp2
    all_goals (go_ret; exact ⟨by simp [*], rfl⟩)
  · have e1 : decide (lo ≤ x) = false := by simpa using h1
    go_enter Tryz.func59, Tryz.ntmps59
    go_wp2
    all_goals (go_ret; exact ⟨by simp [*], rfl⟩)
theorem idOk_any (x : Int) (w : World) :
    Calls Tryz.prog 109 #[.int .i64 x] w fun e w' => e = .returned (.bool (inB x 1 20)) ∧ w = w' := by
  go_enter Tryz.func109, Tryz.ntmps109
  go_wp2_with ((go_at_call 59; refine (between_any _ _ _ _).mono ?_; rintro e w' ⟨rfl, rfl⟩))
  go_ret; exact ⟨rfl, rfl⟩
theorem timeOk_any (x : Int) (w : World) :
    Calls Tryz.prog 31 #[.int .i64 x] w fun e w' => e = .returned (.bool (inB x 0 1000000)) ∧ w = w' := by
  go_enter Tryz.func31, Tryz.ntmps31
  go_wp2_with ((go_at_call 59; refine (between_any _ _ _ _).mono ?_; rintro e w' ⟨rfl, rfl⟩))
  go_ret; exact ⟨rfl, rfl⟩
theorem keyOk_any (x : Int) (w : World) :
    Calls Tryz.prog 107 #[.int .i64 x] w fun e w' => e = .returned (.bool (inB x 0 9)) ∧ w = w' := by
  go_enter Tryz.func107, Tryz.ntmps107
  go_wp2_with ((go_at_call 59; refine (between_any _ _ _ _).mono ?_; rintro e w' ⟨rfl, rfl⟩))
  go_ret; exact ⟨rfl, rfl⟩
theorem valueOk_any (x : Int) (w : World) :
    Calls Tryz.prog 108 #[.int .i64 x] w fun e w' => e = .returned (.bool (inB x 0 999)) ∧ w = w' := by
  go_enter Tryz.func108, Tryz.ntmps108
  go_wp2_with ((go_at_call 59; refine (between_any _ _ _ _).mono ?_; rintro e w' ⟨rfl, rfl⟩))
  go_ret; exact ⟨rfl, rfl⟩
end Go.Proofs.YtbheflinchabgaaGreatDoor
namespace Go.Proofs.YtbheflinchabgaaGreatDoor
set_option linter.unusedSimpArgs false
set_option linter.unusedVariables false
attribute [local go_sem] n_lt2 n_lt3 n_lt4 n_le2 n_le3
open Go.ChangeShapes Go.WideShapes Go.ChangeAt Go.RowKit Go.Deep

section
variable {H : Type} {enc : TypeId × Value → H} {P : Program} {w : World} {base : Nat} {spare : Nat → Bool} {held : Bool}

/-- The argument types of a law: each can be read again behind the call. -/
def kinds (P : Program) (ts : List TypeId) : Bool := ts.all fun t => P.readableRec t && decide (t < P.types.size)

theorem trodAll_kept (hl : laidOutB P = true) {W W' : World} (hb : Below W.heap.size W W') : ∀ {ts : List TypeId} {vs : List Value} {ds : List (DataW H)} {ps : List MemPlace}, kinds P ts = true →
    DataW.TrodAll enc P W 0 (fun _ => true) true ts vs ds ps → (∀ x ∈ ps, x.block < W.heap.size) → DataW.TrodAll enc P W' 0 (fun b => decide (b < W.heap.size)) true ts vs ds ps
  | [], [], [], _, _, h, _ => h
  | t :: ts, v :: vs, d :: ds, ps, hk, ⟨p, q, h1, h2, e⟩, hlt => by
    simp only [kinds, List.all_cons, Bool.and_eq_true, decide_eq_true_eq] at hk
    subst e
    exact ⟨p, q, Below.trod hl hk.1.1 hk.1.2 h1 hb (fun x hx => hlt x (by simp [hx])), trodAll_kept hl hb (by simpa [kinds] using hk.2) h2 (fun x hx => hlt x (by simp [hx])), rfl⟩

end

end Go.Proofs.YtbheflinchabgaaGreatDoor
namespace Go.Proofs.YtbheflinchabgaaGreatDoor
set_option linter.unusedSimpArgs false
set_option linter.unusedVariables false
attribute [local go_sem] n_lt2 n_lt3 n_lt4 n_le2 n_le3
open Go.RowKit

def ints (zs : List Int) : List Value := zs.map (Value.int .i64)
theorem ints_length (zs : List Int) : (ints zs).length = zs.length := by simp [ints]
theorem ints_get (zs : List Int) (j : Nat) (h : j < zs.length) : (ints zs)[j]? = some (.int .i64 (zs.getD j 0)) := by
  simp [ints, List.getD, h]
theorem ints_oneCell' (zs : List Int) : ∀ u ∈ ints zs, u.oneCell' = true := ints_oneCell .i64 zs
theorem ints_append (a b : List Int) : ints (a ++ b) = ints a ++ ints b := by simp [ints]
/-- The slice value '.slice A n _' of elements of s cells reads as the numbers zs, one behind the other. -/
def Sl (w : World) (s : Nat) (A : Option Addr) (n : Nat) (zs : List Int) : Prop :=
  zs.length = n * s ∧ (0 < n → ∃ b off, A = some ⟨b, off, none⟩ ∧ b < w.heap.size ∧ ∀ j, j < n * s → w.cell? ⟨b, off + j, none⟩ = some (.int .i64 (zs.getD j 0)))

theorem Sl.len {w : World} {s : Nat} {A : Option Addr} {n : Nat} {zs : List Int} (h : Sl w s A n zs) : zs.length = n * s := h.1
theorem Sl.nil (w : World) (s : Nat) (A : Option Addr) : Sl w s A 0 [] := ⟨by simp, fun h => absurd h (by omega)⟩
theorem Sl.keep {w w' : World} {s : Nat} {A : Option Addr} {n : Nat} {zs : List Int} (h : Sl w s A n zs) (hs : w.heap.size ≤ w'.heap.size) (hc : ∀ p : Addr, A.map (·.block) = some p.block → w'.cell? p = w.cell? p) : Sl w' s A n zs :=
  ⟨h.1, fun hn => by
    obtain ⟨b, off, rfl, hb, hj⟩ := h.2 hn
    exact ⟨b, off, rfl, Nat.lt_of_lt_of_le hb hs, fun j hjn => (hc ⟨b, off + j, none⟩ rfl).trans (hj j hjn)⟩⟩
theorem Sl.below {w w' : World} {s : Nat} {A : Option Addr} {n : Nat} {zs : List Int} (h : Sl w s A n zs) (hb : Below w.heap.size w w') : Sl w' s A n zs :=
  ⟨h.1, fun hn => by
    obtain ⟨b, off, rfl, hbl, hj⟩ := h.2 hn
    exact ⟨b, off, rfl, Nat.lt_of_lt_of_le hbl hb.size, fun j hjn => (hb.cell hbl).trans (hj j hjn)⟩⟩
theorem Sl.drew {w : World} {s : Nat} {A : Option Addr} {n : Nat} {zs : List Int} (h : Sl w s A n zs) : Sl w.drew s A n zs := h
theorem Sl.at_ {w : World} {s : Nat} {A : Option Addr} {n : Nat} {zs : List Int} (h : Sl w s A n zs) (hn : 0 < n) :
    ∃ b off, A = some ⟨b, off, none⟩ ∧ b < w.heap.size ∧ ∀ j, j < n * s → w.cell? ⟨b, off + j, none⟩ = some (.int .i64 (zs.getD j 0)) := h.2 hn

/-- A row of the call's own, from block lo on: its slice value is '.slice A n cap', its numbers zs. -/
def Row (w : World) (lo : Nat) (e : TypeId) (s : Nat) (A : Option Addr) (n cap : Nat) (zs : List Int) : Prop := w.ownsRow lo e s (.slice A n cap) n (ints zs)

/-- The blocks of a slice lie below hi. -/
def LtB (A : Option Addr) (hi : Nat) : Prop := ∀ a, A = some a → a.block < hi
theorem LtB.mono {A : Option Addr} {hi hi' : Nat} (h : LtB A hi) (hh : hi ≤ hi') : LtB A hi' := fun a ha => Nat.lt_of_lt_of_le (h a ha) hh

theorem Row.lt {w : World} {lo : Nat} {e : TypeId} {s : Nat} {A : Option Addr} {n cap : Nat} {zs : List Int} (h : Row w lo e s A n cap zs) : LtB A w.heap.size := fun a ha => by
  subst ha
  exact (World.ownsRow.lt h a.block rfl).2
theorem Row.ge {w : World} {lo : Nat} {e : TypeId} {s : Nat} {A : Option Addr} {n cap : Nat} {zs : List Int} (h : Row w lo e s A n cap zs) : ∀ a, A = some a → lo ≤ a.block := fun a ha => by
  subst ha
  exact (World.ownsRow.lt h a.block rfl).1
theorem Row.len {w : World} {lo : Nat} {e : TypeId} {s : Nat} {A : Option Addr} {n cap : Nat} {zs : List Int} (h : Row w lo e s A n cap zs) : zs.length = n * s := by
  have := h.1
  rwa [ints_length] at this
theorem Row.sl {w : World} {lo : Nat} {e : TypeId} {s : Nat} {A : Option Addr} {n cap : Nat} {zs : List Int} (h : Row w lo e s A n cap zs) : Sl w s A n zs := by
  refine ⟨h.len, fun hn => ?_⟩
  have hlt := h.lt
  have hl := h.len
  rcases h.2 with ⟨_, h0⟩ | ⟨g, c, cur, hv, _, hg, _, _, hcs, ht⟩
  · omega
  · obtain ⟨rfl, rfl⟩ : A = some ⟨g, 0, none⟩ ∧ cap = c := by
      injection hv with h1 _ h3
      exact ⟨h1, h3⟩
    refine ⟨g, 0, rfl, hlt _ rfl, fun j hj => ?_⟩
    have hc := World.ownsRow.cellAt h j hj
    rw [Nat.zero_add, hc]
    exact ints_get zs j (by omega)
theorem Row.keep {w w' : World} {lo : Nat} {e : TypeId} {s : Nat} {A : Option Addr} {n cap : Nat} {zs : List Int} (h : Row w lo e s A n cap zs) (hk : ∀ a, A = some a → w'.heap[a.block]? = w.heap[a.block]?) : Row w' lo e s A n cap zs := by
  refine ⟨h.1, ?_⟩
  rcases h.2 with hn | ⟨g, c, cur, hv, hb, hg, rest⟩
  · exact .inl hn
  · refine .inr ⟨g, c, cur, hv, hb, ?_, rest⟩
    have hA : A = some ⟨g, 0, none⟩ := by injection hv
    rw [hk _ hA]
    exact hg
theorem Row.below {w w' : World} {lo : Nat} {e : TypeId} {s : Nat} {A : Option Addr} {n cap : Nat} {zs : List Int} (h : Row w lo e s A n cap zs) (hb : Below w.heap.size w w') : Row w' lo e s A n cap zs :=
  h.keep fun a ha => hb.block _ (h.lt a ha)
theorem Row.mono {w : World} {lo lo' : Nat} {e : TypeId} {s : Nat} {A : Option Addr} {n cap : Nat} {zs : List Int} (h : Row w lo e s A n cap zs) (hl : lo' ≤ lo) : Row w lo' e s A n cap zs := by
  refine ⟨h.1, ?_⟩
  rcases h.2 with hn | ⟨g, c, cur, hv, hb, rest⟩
  · exact .inl hn
  · exact .inr ⟨g, c, cur, hv, Nat.le_trans hl hb, rest⟩
theorem Row.nil (w : World) (lo : Nat) (e : TypeId) (s : Nat) : Row w lo e s none 0 0 [] := World.ownsRow_nil w lo e s
theorem Row.cap_le {w : World} {lo : Nat} {e : TypeId} {s : Nat} {A : Option Addr} {n cap : Nat} {zs : List Int} (h : Row w lo e s A n cap zs) : n ≤ cap ∧ cap ≤ maxLen := by
  rcases h.2 with ⟨hv, rfl⟩ | ⟨g, c, cur, hv, _, _, h1, h2, _⟩
  · injection hv with _ _ hc
    subst hc
    exact ⟨Nat.le_refl _, by simp⟩
  · injection hv with _ _ hc
    subst hc
    exact ⟨h1, h2⟩

/-- Only the row at A (and new memory) has been written. -/
def Wrote (w w' : World) (A : Option Addr) : Prop := w.grownBy w' (A.map (·.block))
theorem Wrote.size {w w' : World} {A : Option Addr} (h : Wrote w w' A) : w.heap.size ≤ w'.heap.size := World.grownBy.size h
/-- A row made before the written one. -/
theorem Row.wrote {w w' : World} {lo : Nat} {e : TypeId} {s : Nat} {A B : Option Addr} {n cap : Nat} {zs : List Int} (h : Row w lo e s A n cap zs) (hw : Wrote w w' B) (hne : ∀ a b, A = some a → B = some b → a.block ≠ b.block) : Row w' lo e s A n cap zs :=
  h.keep fun a ha => World.grownBy.block hw _ (h.lt a ha) (by
    cases B with
    | none => simp
    | some b => simp only [Option.map_some, ne_eq, Option.some.injEq]; exact hne a b ha rfl)
theorem Sl.wrote {w w' : World} {s : Nat} {A B : Option Addr} {n : Nat} {zs : List Int} (h : Sl w s A n zs) (hw : Wrote w w' B) (hne : 0 < n → ∀ a b, A = some a → B = some b → a.block ≠ b.block) : Sl w' s A n zs :=
  ⟨h.1, fun hn => by
    obtain ⟨b, off, rfl, hbl, hj⟩ := h.2 hn
    refine ⟨b, off, rfl, Nat.lt_of_lt_of_le hbl hw.size, fun j hjn => ?_⟩
    rw [World.cell?_of_block (World.grownBy.block hw _ hbl (by
      cases B with
      | none => simp
      | some c => simp only [Option.map_some, ne_eq, Option.some.injEq]; exact hne hn _ c rfl rfl))]
    exact hj j hjn⟩
theorem Sl.lt {w : World} {s : Nat} {A : Option Addr} {n : Nat} {zs : List Int} (h : Sl w s A n zs) (hn : 0 < n) : LtB A w.heap.size := fun a ha => by
  obtain ⟨b, off, rfl, hbl, _⟩ := h.2 hn
  obtain rfl := Option.some.inj ha
  exact hbl
theorem apart_symm {A B : Option Addr} (h : ∀ a b, A = some a → B = some b → a.block ≠ b.block) : ∀ a b, B = some a → A = some b → a.block ≠ b.block := fun a b ha hb e => h b a hb ha e.symm
/-- The frame of the whole: a row of the call's own was written. -/
theorem Wrote.below {B : Nat} {a w w' : World} {A : Option Addr} (h : Wrote w w' A) (h1 : Below B a w) (hB : B ≤ w.heap.size) (hA : ∀ x, A = some x → B ≤ x.block) : Below B a w' :=
  h1.grown h hB (fun k hk => by
    cases A with
    | none => simp at hk
    | some x => simp only [Option.map_some, Option.some.injEq] at hk; subst hk; exact hA x rfl)

theorem wrote_set {w w' : World} {a : Addr} (h : Wrote w w' (some a)) {p : Addr} (hp : p.block = a.block) (u : Value) : Wrote w (w'.setCell p u) (some a) := by
  refine ⟨h.os, h.tape, h.output, by simpa [World.setCell] using World.grownBy.size h, fun k hk hne => ?_⟩
  rw [Below.heap_setCell w' p u k (by
    rintro rfl
    exact hne (by simp [hp]))]
  exact World.grownBy.block h k hk hne

/-- The frames of two calls, one behind the other. -/
theorem bthen {w a b : World} (h1 : Below w.heap.size w a) (h2 : Below a.heap.size a b) : Below w.heap.size w b := bstep h2 h1 h1.size

/-- A block known whole. -/
def Blk (w : World) (g : Nat) (e : TypeId) (cs : Array Value) : Prop := w.heap[g]? = some (.cells cs e (0, 0))
theorem Blk.lt {w : World} {g : Nat} {e : TypeId} {cs : Array Value} (h : Blk w g e cs) : g < w.heap.size := (Array.getElem?_eq_some_iff.1 h).1
theorem Blk.cell {w : World} {g : Nat} {e : TypeId} {cs : Array Value} (h : Blk w g e cs) (i : Nat) : w.cell? ⟨g, i, none⟩ = cs[i]? := cell_of_row w g i cs e (0, 0) h
theorem Blk.has {w : World} {g : Nat} {e : TypeId} {cs : Array Value} (h : Blk w g e cs) {i : Nat} (hi : i < cs.size) : ∃ c, w.cell? ⟨g, i, none⟩ = some c := ⟨cs[i], by rw [h.cell]; exact Array.getElem?_eq_getElem hi⟩
theorem Blk.frozen {w : World} {g : Nat} {e : TypeId} {cs : Array Value} (h : Blk w g e cs) (i : Nat) : w.frozen? ⟨g, i, none⟩ = false := by
  unfold Blk at h
  simp [World.frozen?, h]
theorem Blk.new (w : World) (e : TypeId) (cs : Array Value) : Blk (w.alloc (.cells cs e)) w.heap.size e cs := heap_alloc_new w _
theorem Blk.alloc {w : World} {g : Nat} {e : TypeId} {cs : Array Value} (h : Blk w g e cs) (o : Obj) : Blk (w.alloc o) g e cs := (Below.heap_alloc w o g h.lt).trans h
theorem Blk.drew {w : World} {g : Nat} {e : TypeId} {cs : Array Value} (h : Blk w g e cs) : Blk w.drew g e cs := h
theorem Blk.set_ {w : World} {g : Nat} {e : TypeId} {cs : Array Value} (h : Blk w g e cs) (i : Nat) (u : Value) : Blk (w.setCell ⟨g, i, none⟩ u) g e (cs.setIfInBounds i u) := by
  unfold Blk at h ⊢
  simp [World.setCell, Array.getElem?_modify, h]
theorem Blk.far {w : World} {g : Nat} {e : TypeId} {cs : Array Value} (h : Blk w g e cs) {p : Addr} (hp : g ≠ p.block) (u : Value) : Blk (w.setCell p u) g e cs := (Below.heap_setCell w p u g hp).trans h
theorem Blk.below {w w' : World} {g : Nat} {e : TypeId} {cs : Array Value} (h : Blk w g e cs) (hb : Below w.heap.size w w') : Blk w' g e cs := (hb.block g h.lt).trans h
theorem Blk.row {w : World} {g lo n : Nat} {e : TypeId} {s : Nat} {cs : Array Value} {zs : List Int} (h : Blk w g e cs) (hlo : lo ≤ g) (hn : n ≤ maxLen) (hcs : cs.size = n * s) (hz : zs.length = n * s) (hj : ∀ j, j < n * s → cs[j]? = some (.int .i64 (zs.getD j 0))) :
    Row w lo e s (some ⟨g, 0, none⟩) n n zs := by
  refine ⟨by rw [ints_length]; exact hz, .inr ⟨g, n, cs, rfl, hlo, h, Nat.le_refl _, hn, hcs, ?_⟩⟩
  rw [List.take_of_length_le (by simp; omega)]
  apply List.ext_getElem?
  intro j
  by_cases hjn : j < n * s
  · rw [ints_get zs j (by omega), ← hj j hjn]; simp
  · rw [List.getElem?_eq_none (by simp; omega), List.getElem?_eq_none (by rw [ints_length]; omega)]
/-- A row's block. -/
theorem Row.blk {w : World} {lo : Nat} {e : TypeId} {s : Nat} {A : Option Addr} {n cap : Nat} {zs : List Int} (h : Row w lo e s A n cap zs) (hn : 0 < n) :
    ∃ g cs, A = some ⟨g, 0, none⟩ ∧ lo ≤ g ∧ Blk w g e cs ∧ n ≤ cap ∧ cap ≤ maxLen ∧ cs.size = cap * s ∧ ∀ j, j < n * s → cs[j]? = some (.int .i64 (zs.getD j 0)) := by
  have hl := h.len
  rcases h.2 with ⟨_, h0⟩ | ⟨g, c, cur, hv, hb, hg, h1, h2, hcs, ht⟩
  · omega
  · obtain ⟨rfl, rfl⟩ : A = some ⟨g, 0, none⟩ ∧ cap = c := by
      injection hv with h1 _ h3
      exact ⟨h1, h3⟩
    refine ⟨g, cur, rfl, hb, hg, h1, h2, hcs, fun j hj => ?_⟩
    have := ints_get zs j (by omega)
    rw [← ht, List.getElem?_take, if_pos hj] at this
    simpa using this
/-- Back: the block with other cells. -/
theorem Row.of_blk {w : World} {g lo n cap : Nat} {e : TypeId} {s : Nat} {cs : Array Value} {zs : List Int} (h : Blk w g e cs) (hlo : lo ≤ g) (hn : n ≤ cap) (hc : cap ≤ maxLen) (hcs : cs.size = cap * s) (hz : zs.length = n * s) (hj : ∀ j, j < n * s → cs[j]? = some (.int .i64 (zs.getD j 0))) :
    Row w lo e s (some ⟨g, 0, none⟩) n cap zs := by
  have hle : n * s ≤ cap * s := Nat.mul_le_mul_right _ hn
  refine ⟨by rw [ints_length]; exact hz, .inr ⟨g, cap, cs, rfl, hlo, h, hn, hc, hcs, ?_⟩⟩
  apply List.ext_getElem?
  intro j
  rw [List.getElem?_take]
  by_cases hjn : j < n * s
  · rw [if_pos hjn, ints_get zs j (by omega), ← hj j hjn]; simp
  · rw [if_neg hjn, List.getElem?_eq_none (by rw [ints_length]; omega)]

/-- What a function that hands back a slice of flat elements leaves: a row of its own, old memory as it was. -/
def RetRow (w : World) (E s n : Nat) (zs : List Int) (e : Ending) (w' : World) : Prop := ∃ A cap, e = .returned (.slice A n cap) ∧ Row w' w.heap.size E s A n cap zs ∧ Below w.heap.size w w'

theorem RetRow.mk {w w' : World} {E s n : Nat} {zs : List Int} {A : Option Addr} {cap : Nat} (h : Row w' w.heap.size E s A n cap zs) (hb : Below w.heap.size w w') : RetRow w E s n zs (.returned (.slice A n cap)) w' := ⟨A, cap, rfl, h, hb⟩

/-- 'make([]T, n)' at a length of at most 2^20, the elements of at most 4096 bytes. -/
theorem make_flat {P : Program} (t e : TypeId) (z : Value) (s bytes : Nat) (ht : P.underlying t = some (.slice e)) (hinfo : (P.info? e).map (fun i => (i.zero, i.size, i.bytes)) = some (some z, s, bytes)) (hb : bytes ≤ 4096) (n : Nat) (hn : n ≤ 1048576) (w : World) :
    (Instr.makeSlice t (.int .i64 (n : Int)) (.int .i64 (n : Int))).run P w = .ok (.slice (some ⟨w.heap.size, 0, none⟩) n n) (w.alloc (.cells (madeCells z.cells (n * s)) e)) := by
  obtain ⟨i, hi, hz, rfl, hby⟩ := info_parts hinfo
  have hle : bytes * n ≤ 4096 * 1048576 := Nat.mul_le_mul hb hn
  have hle' : (i.bytes : Int) * (n : Int) ≤ 281474976710656 := by
    rw [hby, ← Int.natCast_mul]
    omega
  have h := run_make (P := P) w t e i z ht hi hz .i64 .i64 n n (by omega) (Int.le_refl _) hle' (by omega)
  simpa using h

/-- The numbers k, k + 1, .. (m of them): what the law's marks lay. -/
def marks (k : Int) (m : Nat) : List Int := (List.range m).map fun (j : Nat) => k + (j : Int)
/-- What mark leaves. -/
def RetMark (w : World) (lo E s : Nat) (A : Option Addr) (n cap : Nat) (k : Int) (e : Ending) (w' : World) : Prop := e = .returned (.int .i64 (k + (n * s : Nat))) ∧ Row w' lo E s A n cap (marks k (n * s)) ∧ Wrote w w' A
theorem RetMark.mk {w w' : World} {lo E s : Nat} {A : Option Addr} {n cap : Nat} {k k' : Int} (hk : k' = k + (n * s : Nat)) (h : Row w' lo E s A n cap (marks k (n * s))) (hw : Wrote w w' A) : RetMark w lo E s A n cap k (.returned (.int .i64 k')) w' := ⟨by rw [hk], h, hw⟩

end Go.Proofs.YtbheflinchabgaaGreatDoor
namespace Go.Proofs.YtbheflinchabgaaGreatDoor
open Go.RowKit
theorem bc3 {w : World} {g e : Nat} {x0 x1 x2 : Value} (h : Blk w g e #[x0, x1, x2]) : w.cell? ⟨g, 0, none⟩ = some x0 ∧ w.cell? ⟨g, 1, none⟩ = some x1 ∧ w.cell? ⟨g, 2, none⟩ = some x2 := ⟨h.cell 0, h.cell 1, h.cell 2⟩
theorem bc4 {w : World} {g e : Nat} {x0 x1 x2 x3 : Value} (h : Blk w g e #[x0, x1, x2, x3]) : w.cell? ⟨g, 0, none⟩ = some x0 ∧ w.cell? ⟨g, 1, none⟩ = some x1 ∧ w.cell? ⟨g, 2, none⟩ = some x2 ∧ w.cell? ⟨g, 3, none⟩ = some x3 := ⟨h.cell 0, h.cell 1, h.cell 2, h.cell 3⟩
theorem bc6 {w : World} {g e : Nat} {x0 x1 x2 x3 x4 x5 : Value} (h : Blk w g e #[x0, x1, x2, x3, x4, x5]) : w.cell? ⟨g, 0, none⟩ = some x0 ∧ w.cell? ⟨g, 1, none⟩ = some x1 ∧ w.cell? ⟨g, 2, none⟩ = some x2 ∧ w.cell? ⟨g, 3, none⟩ = some x3 ∧ w.cell? ⟨g, 4, none⟩ = some x4 ∧ w.cell? ⟨g, 5, none⟩ = some x5 := ⟨h.cell 0, h.cell 1, h.cell 2, h.cell 3, h.cell 4, h.cell 5⟩
theorem bc7 {w : World} {g e : Nat} {x0 x1 x2 x3 x4 x5 x6 : Value} (h : Blk w g e #[x0, x1, x2, x3, x4, x5, x6]) : w.cell? ⟨g, 0, none⟩ = some x0 ∧ w.cell? ⟨g, 1, none⟩ = some x1 ∧ w.cell? ⟨g, 2, none⟩ = some x2 ∧ w.cell? ⟨g, 3, none⟩ = some x3 ∧ w.cell? ⟨g, 4, none⟩ = some x4 ∧ w.cell? ⟨g, 5, none⟩ = some x5 ∧ w.cell? ⟨g, 6, none⟩ = some x6 := ⟨h.cell 0, h.cell 1, h.cell 2, h.cell 3, h.cell 4, h.cell 5, h.cell 6⟩
theorem bc9 {w : World} {g e : Nat} {x0 x1 x2 x3 x4 x5 x6 x7 x8 : Value} (h : Blk w g e #[x0, x1, x2, x3, x4, x5, x6, x7, x8]) : w.cell? ⟨g, 0, none⟩ = some x0 ∧ w.cell? ⟨g, 1, none⟩ = some x1 ∧ w.cell? ⟨g, 2, none⟩ = some x2 ∧ w.cell? ⟨g, 3, none⟩ = some x3 ∧ w.cell? ⟨g, 4, none⟩ = some x4 ∧ w.cell? ⟨g, 5, none⟩ = some x5 ∧ w.cell? ⟨g, 6, none⟩ = some x6 ∧ w.cell? ⟨g, 7, none⟩ = some x7 ∧ w.cell? ⟨g, 8, none⟩ = some x8 := ⟨h.cell 0, h.cell 1, h.cell 2, h.cell 3, h.cell 4, h.cell 5, h.cell 6, h.cell 7, h.cell 8⟩
theorem bc19 {w : World} {g e : Nat} {x0 x1 x2 x3 x4 x5 x6 x7 x8 x9 x10 x11 x12 x13 x14 x15 x16 x17 x18 : Value} (h : Blk w g e #[x0, x1, x2, x3, x4, x5, x6, x7, x8, x9, x10, x11, x12, x13, x14, x15, x16, x17, x18]) : w.cell? ⟨g, 0, none⟩ = some x0 ∧ w.cell? ⟨g, 1, none⟩ = some x1 ∧ w.cell? ⟨g, 2, none⟩ = some x2 ∧ w.cell? ⟨g, 3, none⟩ = some x3 ∧ w.cell? ⟨g, 4, none⟩ = some x4 ∧ w.cell? ⟨g, 5, none⟩ = some x5 ∧ w.cell? ⟨g, 6, none⟩ = some x6 ∧ w.cell? ⟨g, 7, none⟩ = some x7 ∧ w.cell? ⟨g, 8, none⟩ = some x8 ∧ w.cell? ⟨g, 9, none⟩ = some x9 ∧ w.cell? ⟨g, 10, none⟩ = some x10 ∧ w.cell? ⟨g, 11, none⟩ = some x11 ∧ w.cell? ⟨g, 12, none⟩ = some x12 ∧ w.cell? ⟨g, 13, none⟩ = some x13 ∧ w.cell? ⟨g, 14, none⟩ = some x14 ∧ w.cell? ⟨g, 15, none⟩ = some x15 ∧ w.cell? ⟨g, 16, none⟩ = some x16 ∧ w.cell? ⟨g, 17, none⟩ = some x17 ∧ w.cell? ⟨g, 18, none⟩ = some x18 := ⟨h.cell 0, h.cell 1, h.cell 2, h.cell 3, h.cell 4, h.cell 5, h.cell 6, h.cell 7, h.cell 8, h.cell 9, h.cell 10, h.cell 11, h.cell 12, h.cell 13, h.cell 14, h.cell 15, h.cell 16, h.cell 17, h.cell 18⟩
theorem bc22 {w : World} {g e : Nat} {x0 x1 x2 x3 x4 x5 x6 x7 x8 x9 x10 x11 x12 x13 x14 x15 x16 x17 x18 x19 x20 x21 : Value} (h : Blk w g e #[x0, x1, x2, x3, x4, x5, x6, x7, x8, x9, x10, x11, x12, x13, x14, x15, x16, x17, x18, x19, x20, x21]) : w.cell? ⟨g, 0, none⟩ = some x0 ∧ w.cell? ⟨g, 1, none⟩ = some x1 ∧ w.cell? ⟨g, 2, none⟩ = some x2 ∧ w.cell? ⟨g, 3, none⟩ = some x3 ∧ w.cell? ⟨g, 4, none⟩ = some x4 ∧ w.cell? ⟨g, 5, none⟩ = some x5 ∧ w.cell? ⟨g, 6, none⟩ = some x6 ∧ w.cell? ⟨g, 7, none⟩ = some x7 ∧ w.cell? ⟨g, 8, none⟩ = some x8 ∧ w.cell? ⟨g, 9, none⟩ = some x9 ∧ w.cell? ⟨g, 10, none⟩ = some x10 ∧ w.cell? ⟨g, 11, none⟩ = some x11 ∧ w.cell? ⟨g, 12, none⟩ = some x12 ∧ w.cell? ⟨g, 13, none⟩ = some x13 ∧ w.cell? ⟨g, 14, none⟩ = some x14 ∧ w.cell? ⟨g, 15, none⟩ = some x15 ∧ w.cell? ⟨g, 16, none⟩ = some x16 ∧ w.cell? ⟨g, 17, none⟩ = some x17 ∧ w.cell? ⟨g, 18, none⟩ = some x18 ∧ w.cell? ⟨g, 19, none⟩ = some x19 ∧ w.cell? ⟨g, 20, none⟩ = some x20 ∧ w.cell? ⟨g, 21, none⟩ = some x21 := ⟨h.cell 0, h.cell 1, h.cell 2, h.cell 3, h.cell 4, h.cell 5, h.cell 6, h.cell 7, h.cell 8, h.cell 9, h.cell 10, h.cell 11, h.cell 12, h.cell 13, h.cell 14, h.cell 15, h.cell 16, h.cell 17, h.cell 18, h.cell 19, h.cell 20, h.cell 21⟩
theorem bf3 {w : World} {g e : Nat} {cs : Array Value} (h : Blk w g e cs) : w.frozen? ⟨g, 0, none⟩ = false ∧ w.frozen? ⟨g, 1, none⟩ = false ∧ w.frozen? ⟨g, 2, none⟩ = false := ⟨h.frozen 0, h.frozen 1, h.frozen 2⟩
theorem bf4 {w : World} {g e : Nat} {cs : Array Value} (h : Blk w g e cs) : w.frozen? ⟨g, 0, none⟩ = false ∧ w.frozen? ⟨g, 1, none⟩ = false ∧ w.frozen? ⟨g, 2, none⟩ = false ∧ w.frozen? ⟨g, 3, none⟩ = false := ⟨h.frozen 0, h.frozen 1, h.frozen 2, h.frozen 3⟩
theorem bf7 {w : World} {g e : Nat} {cs : Array Value} (h : Blk w g e cs) : w.frozen? ⟨g, 0, none⟩ = false ∧ w.frozen? ⟨g, 1, none⟩ = false ∧ w.frozen? ⟨g, 2, none⟩ = false ∧ w.frozen? ⟨g, 3, none⟩ = false ∧ w.frozen? ⟨g, 4, none⟩ = false ∧ w.frozen? ⟨g, 5, none⟩ = false ∧ w.frozen? ⟨g, 6, none⟩ = false := ⟨h.frozen 0, h.frozen 1, h.frozen 2, h.frozen 3, h.frozen 4, h.frozen 5, h.frozen 6⟩
theorem bf9 {w : World} {g e : Nat} {cs : Array Value} (h : Blk w g e cs) : w.frozen? ⟨g, 0, none⟩ = false ∧ w.frozen? ⟨g, 1, none⟩ = false ∧ w.frozen? ⟨g, 2, none⟩ = false ∧ w.frozen? ⟨g, 3, none⟩ = false ∧ w.frozen? ⟨g, 4, none⟩ = false ∧ w.frozen? ⟨g, 5, none⟩ = false ∧ w.frozen? ⟨g, 6, none⟩ = false ∧ w.frozen? ⟨g, 7, none⟩ = false ∧ w.frozen? ⟨g, 8, none⟩ = false := ⟨h.frozen 0, h.frozen 1, h.frozen 2, h.frozen 3, h.frozen 4, h.frozen 5, h.frozen 6, h.frozen 7, h.frozen 8⟩
end Go.Proofs.YtbheflinchabgaaGreatDoor
namespace Go.Proofs.YtbheflinchabgaaGreatDoor
set_option linter.unusedSimpArgs false
set_option linter.unusedVariables false
attribute [local go_sem] n_lt2 n_lt3 n_lt4 n_le2 n_le3
open Go.ChangeShapes Go.WideShapes Go.ChangeAt Go.RowKit Go.Deep

section
variable {α : Type} (c : α → List Int) (s : Nat)
theorem flat_len (l : List α) (h : ∀ a ∈ l, (c a).length = s) : (l.flatMap c).length = l.length * s := by
  induction l with
  | nil => simp
  | cons a l ih =>
    rw [List.flatMap_cons, List.length_append, h a (by simp), ih (fun b hb => h b (by simp [hb])), List.length_cons, Nat.add_mul]
    omega
theorem flat_get : ∀ (l : List α) (_h : ∀ a ∈ l, (c a).length = s) (i j : Nat) (hi : i < l.length) (_hj : j < s), (l.flatMap c)[i * s + j]? = (c l[i])[j]?
  | [], _, i, _, hi, _ => by simp at hi
  | a :: l, h, 0, j, _, hj => by
    have ha : (c a).length = s := h a (by simp)
    rw [List.flatMap_cons, Nat.zero_mul, Nat.zero_add, List.getElem?_append_left (by omega)]
    rfl
  | a :: l, h, i + 1, j, hi, hj => by
    have ha : (c a).length = s := h a (by simp)
    rw [List.flatMap_cons, List.getElem?_append_right (by rw [ha, Nat.add_mul]; omega), ha]
    have e : (i + 1) * s + j - s = i * s + j := by rw [Nat.add_mul]; omega
    rw [e]
    exact flat_get l (fun b hb => h b (by simp [hb])) i j (by simpa using hi) hj
theorem flat_getD (l : List α) (h : ∀ a ∈ l, (c a).length = s) (i j : Nat) (hi : i < l.length) (hj : j < s) : (l.flatMap c).getD (i * s + j) 0 = (c l[i]).getD j 0 := by
  rw [List.getD_eq_getElem?_getD, List.getD_eq_getElem?_getD, flat_get c s l h i j hi hj]
end

section
variable {H : Type} {enc : TypeId × Value → H} {P : Program} {w : World} {base : Nat} {spare : Nat → Bool} {held : Bool}

end
end Go.Proofs.YtbheflinchabgaaGreatDoor
namespace Go.Proofs.YtbheflinchabgaaGreatDoor
set_option linter.unusedSimpArgs false
set_option linter.unusedVariables false
attribute [local go_sem] n_lt2 n_lt3 n_lt4 n_le2 n_le3
open Go.RowKit

structure Wt where
  k : Int
  o : Int
  a : Int
  b : Int
  c : Int
  d : Int
  y : Int
instance : Inhabited Wt := ⟨⟨0, 0, 0, 0, 0, 0, 0⟩⟩
def WT (l : List Wt) : List Int := l.flatMap fun j => [j.k, j.o, j.a, j.b, j.c, j.d, j.y]
theorem WT_len (l : List Wt) : (WT l).length = l.length * 7 := flat_len _ 7 l (fun _ _ => rfl)
theorem WT_append (a b : List Wt) : WT (a ++ b) = WT a ++ WT b := by simp [WT]
theorem WT_get (l : List Wt) (i j : Nat) (h : i < l.length) (hj : j < 7) : (WT l).getD (i * 7 + j) 0 = [(l.getD i default).k, (l.getD i default).o, (l.getD i default).a, (l.getD i default).b, (l.getD i default).c, (l.getD i default).d, (l.getD i default).y].getD j 0 := by
  have := flat_getD (fun j : Wt => [j.k, j.o, j.a, j.b, j.c, j.d, j.y]) 7 l (fun _ _ => rfl) i j h hj
  have e : l.getD i default = l[i] := by simp [List.getD, h]
  rw [e]
  exact this
theorem sl_wants {w : World} {A : Option Addr} {n : Nat} {l : List Wt} (h : Sl w 7 A n (WT l)) (hn : 0 < n) : ∃ b off, A = some ⟨b, off, none⟩ ∧ b < w.heap.size ∧
    ∀ i, i < n → w.cell? ⟨b, off + i * 7, none⟩ = some (.int .i64 (l.getD i default).k) ∧ w.cell? ⟨b, off + i * 7 + 1, none⟩ = some (.int .i64 (l.getD i default).o) ∧ w.cell? ⟨b, off + i * 7 + 2, none⟩ = some (.int .i64 (l.getD i default).a) ∧ w.cell? ⟨b, off + i * 7 + 3, none⟩ = some (.int .i64 (l.getD i default).b) ∧ w.cell? ⟨b, off + i * 7 + 4, none⟩ = some (.int .i64 (l.getD i default).c) ∧ w.cell? ⟨b, off + i * 7 + 5, none⟩ = some (.int .i64 (l.getD i default).d) ∧ w.cell? ⟨b, off + i * 7 + 6, none⟩ = some (.int .i64 (l.getD i default).y) := by
  have hl : l.length = n := by
    have := h.len
    rw [WT_len] at this
    omega
  obtain ⟨b, off, hA, hb, hc⟩ := h.at_ hn
  have hg : ∀ i, i < n → ∀ j, j < 7 → w.cell? ⟨b, off + i * 7 + j, none⟩ = some (.int .i64 ([(l.getD i default).k, (l.getD i default).o, (l.getD i default).a, (l.getD i default).b, (l.getD i default).c, (l.getD i default).d, (l.getD i default).y].getD j 0)) := fun i hi j hj => by
    rw [Nat.add_assoc, hc (i * 7 + j) (by omega), WT_get l i j (by omega) hj]
  exact ⟨b, off, hA, hb, fun i hi => ⟨hg i hi 0 (by decide), hg i hi 1 (by decide), hg i hi 2 (by decide), hg i hi 3 (by decide), hg i hi 4 (by decide), hg i hi 5 (by decide), hg i hi 6 (by decide)⟩⟩
structure Gt where
  q : Int
  x : Int
  h : Int
  v : Int
instance : Inhabited Gt := ⟨⟨0, 0, 0, 0⟩⟩
def GT (l : List Gt) : List Int := l.flatMap fun j => [j.q, j.x, j.h, j.v]
theorem GT_len (l : List Gt) : (GT l).length = l.length * 4 := flat_len _ 4 l (fun _ _ => rfl)
theorem GT_append (a b : List Gt) : GT (a ++ b) = GT a ++ GT b := by simp [GT]
theorem GT_get (l : List Gt) (i j : Nat) (h : i < l.length) (hj : j < 4) : (GT l).getD (i * 4 + j) 0 = [(l.getD i default).q, (l.getD i default).x, (l.getD i default).h, (l.getD i default).v].getD j 0 := by
  have := flat_getD (fun j : Gt => [j.q, j.x, j.h, j.v]) 4 l (fun _ _ => rfl) i j h hj
  have e : l.getD i default = l[i] := by simp [List.getD, h]
  rw [e]
  exact this
theorem sl_gots {w : World} {A : Option Addr} {n : Nat} {l : List Gt} (h : Sl w 4 A n (GT l)) (hn : 0 < n) : ∃ b off, A = some ⟨b, off, none⟩ ∧ b < w.heap.size ∧
    ∀ i, i < n → w.cell? ⟨b, off + i * 4, none⟩ = some (.int .i64 (l.getD i default).q) ∧ w.cell? ⟨b, off + i * 4 + 1, none⟩ = some (.int .i64 (l.getD i default).x) ∧ w.cell? ⟨b, off + i * 4 + 2, none⟩ = some (.int .i64 (l.getD i default).h) ∧ w.cell? ⟨b, off + i * 4 + 3, none⟩ = some (.int .i64 (l.getD i default).v) := by
  have hl : l.length = n := by
    have := h.len
    rw [GT_len] at this
    omega
  obtain ⟨b, off, hA, hb, hc⟩ := h.at_ hn
  have hg : ∀ i, i < n → ∀ j, j < 4 → w.cell? ⟨b, off + i * 4 + j, none⟩ = some (.int .i64 ([(l.getD i default).q, (l.getD i default).x, (l.getD i default).h, (l.getD i default).v].getD j 0)) := fun i hi j hj => by
    rw [Nat.add_assoc, hc (i * 4 + j) (by omega), GT_get l i j (by omega) hj]
  exact ⟨b, off, hA, hb, fun i hi => ⟨hg i hi 0 (by decide), hg i hi 1 (by decide), hg i hi 2 (by decide), hg i hi 3 (by decide)⟩⟩

theorem beqI (a b : Int) : (a == b) = decide (a = b) := by by_cases h : a = b <;> simp [h]
def opB (k a b c d : Int) : Bool :=
  if k = 1 then inB a 0 9 && (inB b 0 999 && (decide (c = 0) && decide (d = 0)))
  else if k = 2 then inB a 0 9 && (decide (b = 0) && (decide (c = 0) && decide (d = 0)))
  else if k = 3 then inB a 1 20 && (inB b 0 1000000 && (inB c 0 9 && inB d 0 999))
  else if k = 4 then inB a 1 20 && (inB b 0 1000 && (decide (c = 0) && decide (d = 0)))
  else if k = 5 then inB a 1 1000 && (decide (b = 0) && (decide (c = 0) && decide (d = 0)))
  else false
theorem seqOk_any (x : Int) (w : World) :
    Calls Tryz.prog 68 #[.int .i64 x] w fun e w' => e = .returned (.bool (inB x 1 2000)) ∧ w = w' := by
  go_enter Tryz.func68, Tryz.ntmps68
  go_wp2_with ((go_at_call 59; refine (between_any _ _ _ _).mono ?_; rintro e w' ⟨rfl, rfl⟩))
  go_ret; exact ⟨rfl, rfl⟩
theorem indexOk_any (x : Int) (w : World) :
    Calls Tryz.prog 93 #[.int .i64 x] w fun e w' => e = .returned (.bool (inB x 1 2000)) ∧ w = w' := by
  go_enter Tryz.func93, Tryz.ntmps93
  go_wp2_with ((go_at_call 59; refine (between_any _ _ _ _).mono ?_; rintro e w' ⟨rfl, rfl⟩))
  go_ret; exact ⟨rfl, rfl⟩
theorem askerOk_any (x : Int) (w : World) :
    Calls Tryz.prog 67 #[.int .i64 x] w fun e w' => e = .returned (.bool (inB x 2 5)) ∧ w = w' := by
  go_enter Tryz.func67, Tryz.ntmps67
  go_wp2_with ((go_at_call 59; refine (between_any _ _ _ _).mono ?_; rintro e w' ⟨rfl, rfl⟩))
  go_ret; exact ⟨rfl, rfl⟩
set_option maxHeartbeats 1000000 in
theorem opOk_any (k a b c d : Int) (w : World) :
    Calls Tryz.prog 69 #[.agg #[.int .i64 k, .int .i64 a, .int .i64 b, .int .i64 c, .int .i64 d]] w fun e' w' => e' = .returned (.bool (opB k a b c d)) ∧ Below w.heap.size w w' := by
  by_cases h1 : k = 1
  · subst h1
    go_enter Tryz.func69, Tryz.ntmps69
    go_wp2_with (first | (go_at_call 107; refine (keyOk_any _ _).mono ?_; rintro e w' ⟨rfl, rfl⟩) | (go_at_call 108; refine (valueOk_any _ _).mono ?_; rintro e w' ⟨rfl, rfl⟩) | (go_at_call 109; refine (idOk_any _ _).mono ?_; rintro e w' ⟨rfl, rfl⟩) | (go_at_call 31; refine (timeOk_any _ _).mono ?_; rintro e w' ⟨rfl, rfl⟩) | (go_at_call 59; refine (between_any _ _ _ _).mono ?_; rintro e w' ⟨rfl, rfl⟩))
    all_goals (go_ret; unfold opB; exact ⟨ret_bool (by first | (simp [*, beqI]; done) | (subst_vars; simp [*, beqI]; done) | (simp [*, beqI]; intros; omega) | (simp_all [beqI]; done)), by (repeat' (first | (with_reducible exact Below.refl _ _) | (with_reducible assumption) | (with_reducible refine Below.alloc ?_ ?_ _) | (with_reducible refine Below.drew ?_) | (with_reducible refine Below.setCell ?_ ?_ _) | (with_reducible refine bstep (by assumption) ?_ ?_) | (with_reducible exact Nat.le_refl _) | omega | (simp [*]; done) | (simp [*]; omega)))⟩)
  by_cases h2 : k = 2
  · subst h2
    go_enter Tryz.func69, Tryz.ntmps69
    go_wp2_with (first | (go_at_call 107; refine (keyOk_any _ _).mono ?_; rintro e w' ⟨rfl, rfl⟩) | (go_at_call 108; refine (valueOk_any _ _).mono ?_; rintro e w' ⟨rfl, rfl⟩) | (go_at_call 109; refine (idOk_any _ _).mono ?_; rintro e w' ⟨rfl, rfl⟩) | (go_at_call 31; refine (timeOk_any _ _).mono ?_; rintro e w' ⟨rfl, rfl⟩) | (go_at_call 59; refine (between_any _ _ _ _).mono ?_; rintro e w' ⟨rfl, rfl⟩))
    all_goals (go_ret; unfold opB; exact ⟨ret_bool (by first | (simp [*, beqI]; done) | (subst_vars; simp [*, beqI]; done) | (simp [*, beqI]; intros; omega) | (simp_all [beqI]; done)), by (repeat' (first | (with_reducible exact Below.refl _ _) | (with_reducible assumption) | (with_reducible refine Below.alloc ?_ ?_ _) | (with_reducible refine Below.drew ?_) | (with_reducible refine Below.setCell ?_ ?_ _) | (with_reducible refine bstep (by assumption) ?_ ?_) | (with_reducible exact Nat.le_refl _) | omega | (simp [*]; done) | (simp [*]; omega)))⟩)
  by_cases h3 : k = 3
  · subst h3
    go_enter Tryz.func69, Tryz.ntmps69
    go_wp2_with (first | (go_at_call 107; refine (keyOk_any _ _).mono ?_; rintro e w' ⟨rfl, rfl⟩) | (go_at_call 108; refine (valueOk_any _ _).mono ?_; rintro e w' ⟨rfl, rfl⟩) | (go_at_call 109; refine (idOk_any _ _).mono ?_; rintro e w' ⟨rfl, rfl⟩) | (go_at_call 31; refine (timeOk_any _ _).mono ?_; rintro e w' ⟨rfl, rfl⟩) | (go_at_call 59; refine (between_any _ _ _ _).mono ?_; rintro e w' ⟨rfl, rfl⟩))
    all_goals (go_ret; unfold opB; exact ⟨ret_bool (by first | (simp [*, beqI]; done) | (subst_vars; simp [*, beqI]; done) | (simp [*, beqI]; intros; omega) | (simp_all [beqI]; done)), by (repeat' (first | (with_reducible exact Below.refl _ _) | (with_reducible assumption) | (with_reducible refine Below.alloc ?_ ?_ _) | (with_reducible refine Below.drew ?_) | (with_reducible refine Below.setCell ?_ ?_ _) | (with_reducible refine bstep (by assumption) ?_ ?_) | (with_reducible exact Nat.le_refl _) | omega | (simp [*]; done) | (simp [*]; omega)))⟩)
  by_cases h4 : k = 4
  · subst h4
    go_enter Tryz.func69, Tryz.ntmps69
    go_wp2_with (first | (go_at_call 107; refine (keyOk_any _ _).mono ?_; rintro e w' ⟨rfl, rfl⟩) | (go_at_call 108; refine (valueOk_any _ _).mono ?_; rintro e w' ⟨rfl, rfl⟩) | (go_at_call 109; refine (idOk_any _ _).mono ?_; rintro e w' ⟨rfl, rfl⟩) | (go_at_call 31; refine (timeOk_any _ _).mono ?_; rintro e w' ⟨rfl, rfl⟩) | (go_at_call 59; refine (between_any _ _ _ _).mono ?_; rintro e w' ⟨rfl, rfl⟩))
    all_goals (go_ret; unfold opB; exact ⟨ret_bool (by first | (simp [*, beqI]; done) | (subst_vars; simp [*, beqI]; done) | (simp [*, beqI]; intros; omega) | (simp_all [beqI]; done)), by (repeat' (first | (with_reducible exact Below.refl _ _) | (with_reducible assumption) | (with_reducible refine Below.alloc ?_ ?_ _) | (with_reducible refine Below.drew ?_) | (with_reducible refine Below.setCell ?_ ?_ _) | (with_reducible refine bstep (by assumption) ?_ ?_) | (with_reducible exact Nat.le_refl _) | omega | (simp [*]; done) | (simp [*]; omega)))⟩)
  by_cases h5 : k = 5
  · subst h5
    go_enter Tryz.func69, Tryz.ntmps69
    go_wp2_with (first | (go_at_call 107; refine (keyOk_any _ _).mono ?_; rintro e w' ⟨rfl, rfl⟩) | (go_at_call 108; refine (valueOk_any _ _).mono ?_; rintro e w' ⟨rfl, rfl⟩) | (go_at_call 109; refine (idOk_any _ _).mono ?_; rintro e w' ⟨rfl, rfl⟩) | (go_at_call 31; refine (timeOk_any _ _).mono ?_; rintro e w' ⟨rfl, rfl⟩) | (go_at_call 59; refine (between_any _ _ _ _).mono ?_; rintro e w' ⟨rfl, rfl⟩))
    all_goals (go_ret; unfold opB; exact ⟨ret_bool (by first | (simp [*, beqI]; done) | (subst_vars; simp [*, beqI]; done) | (simp [*, beqI]; intros; omega) | (simp_all [beqI]; done)), by (repeat' (first | (with_reducible exact Below.refl _ _) | (with_reducible assumption) | (with_reducible refine Below.alloc ?_ ?_ _) | (with_reducible refine Below.drew ?_) | (with_reducible refine Below.setCell ?_ ?_ _) | (with_reducible refine bstep (by assumption) ?_ ?_) | (with_reducible exact Nat.le_refl _) | omega | (simp [*]; done) | (simp [*]; omega)))⟩)
  go_enter Tryz.func69, Tryz.ntmps69
  go_wp2_with fail
  all_goals (go_ret; unfold opB; exact ⟨ret_bool (by first | (simp [*, beqI]; done) | (subst_vars; simp [*, beqI]; done) | (simp [*, beqI]; intros; omega) | (simp_all [beqI]; done)), by (repeat' (first | (with_reducible exact Below.refl _ _) | (with_reducible assumption) | (with_reducible refine Below.alloc ?_ ?_ _) | (with_reducible refine Below.drew ?_) | (with_reducible refine Below.setCell ?_ ?_ _) | (with_reducible refine bstep (by assumption) ?_ ?_) | (with_reducible exact Nat.le_refl _) | omega | (simp [*]; done) | (simp [*]; omega)))⟩)
def wantB (k o a b c d y : Int) : Bool :=
  if k = 1 ∨ k = 2 ∨ k = 3 then opB o a b c d && (decide (o = k) && decide (y = 0))
  else if k = 4 then decide (o = 0 ∧ a = 0 ∧ b = 0 ∧ c = 0 ∧ d = 0) && inB y 0 9
  else false
def wantOkB (x : Wt) : Bool := wantB x.k x.o x.a x.b x.c x.d x.y
def foundB (h v : Int) : Bool := (decide (h = 0) && decide (v = 0)) || (decide (h = 1) && inB v 0 999)
def gotB (k q x h v seq last : Int) : Bool := decide (q = seq) && (inB x last 2000 && (if k = 4 then foundB h v else decide (last < x) && (decide (h = 0) && decide (v = 0))))
def lastAt (gl : List Gt) (i : Nat) : Int := if i = 0 then 0 else (gl.getD (i - 1) default).x
def gotAt (wl : List Wt) (gl : List Gt) (i : Nat) : Bool := gotB (wl.getD i default).k (gl.getD i default).q (gl.getD i default).x (gl.getD i default).h (gl.getD i default).v ((i : Int) + 1) (lastAt gl i)
def wantsB (wl : List Wt) : Bool := (List.range wl.length).all fun i => wantOkB (wl.getD i default)
def gotsB (wl : List Wt) (gl : List Gt) : Bool := (List.range gl.length).all (gotAt wl gl)
def clientB (i0 : Int) (wl : List Wt) (gl : List Gt) (t0 : Int) : Bool := (decide (i0 = 4) || decide (i0 = 5)) && (decide (wl.length ≤ 12) && (wantsB wl && (decide (gl.length ≤ wl.length) && (gotsB wl gl && decide (t0 = lastAt gl gl.length)))))
attribute [local go_sem] Ext.cell Ext.frozen
theorem foundOk_any (h v : Int) (w : World) : Calls Tryz.prog 95 #[.int .i64 h, .int .i64 v] w fun e w' => e = .returned (.bool (foundB h v)) ∧ w = w' := by
  go_enter Tryz.func95, Tryz.ntmps95
  go_wp2_with ((go_at_call 108; refine (valueOk_any _ _).mono ?_; rintro e w' ⟨rfl, rfl⟩))
  all_goals (go_ret; exact ⟨ret_bool (by unfold foundB; (first | rfl | (simp [*]; done) | (subst_vars; simp [*]; done) | (simp_all; done))), rfl⟩)
set_option maxHeartbeats 1000000 in
theorem wantOk_any (k o a b c d y : Int) (w : World) :
    Calls Tryz.prog 94 #[.agg #[.int .i64 k, .int .i64 o, .int .i64 a, .int .i64 b, .int .i64 c, .int .i64 d, .int .i64 y]] w fun e' w' => e' = .returned (.bool (wantB k o a b c d y)) ∧ Below w.heap.size w w' := by
  by_cases h1 : k = 1
  · subst h1
    go_enter Tryz.func94, Tryz.ntmps94
    go_wp2_with (first | (go_at_call 69; refine (opOk_any _ _ _ _ _ _).mono ?_; rintro e w1 ⟨rfl, hb'⟩; (first | (have hb2 := bstep hb' hb hb.size; clear hb' hcb hfb hz1 hz2 hz3 hz4 hb; have hb := hb2; clear hb2) | (have hb := hb'; clear hb')); obtain ⟨hcb, hfb, hz1, hz2, hz3, hz4⟩ := bcell hb; (try simp only [World.size_alloc, World.size_setCell, World.size_drew, Nat.lt_add_one_iff, Nat.add_assoc, Nat.reduceAdd] at hz1 hz2 hz3 hz4)) | (go_at_call 107; refine (keyOk_any _ _).mono ?_; rintro e w' ⟨rfl, rfl⟩))
    all_goals (go_ret; unfold wantB; exact ⟨ret_bool (by first | (simp [*, beqI]; done) | (subst_vars; simp [*, beqI]; done) | (simp [*, beqI]; intros; omega) | (simp_all [beqI]; done)), by (repeat' (first | (with_reducible exact Below.refl _ _) | (with_reducible assumption) | (with_reducible refine Below.alloc ?_ ?_ _) | (with_reducible refine Below.drew ?_) | (with_reducible refine Below.setCell ?_ ?_ _) | (with_reducible refine bstep (by assumption) ?_ ?_) | (with_reducible exact Nat.le_refl _) | omega | (simp [*]; done) | (simp [*]; omega)))⟩)
  by_cases h2 : k = 2
  · subst h2
    go_enter Tryz.func94, Tryz.ntmps94
    go_wp2_with (first | (go_at_call 69; refine (opOk_any _ _ _ _ _ _).mono ?_; rintro e w1 ⟨rfl, hb'⟩; (first | (have hb2 := bstep hb' hb hb.size; clear hb' hcb hfb hz1 hz2 hz3 hz4 hb; have hb := hb2; clear hb2) | (have hb := hb'; clear hb')); obtain ⟨hcb, hfb, hz1, hz2, hz3, hz4⟩ := bcell hb; (try simp only [World.size_alloc, World.size_setCell, World.size_drew, Nat.lt_add_one_iff, Nat.add_assoc, Nat.reduceAdd] at hz1 hz2 hz3 hz4)) | (go_at_call 107; refine (keyOk_any _ _).mono ?_; rintro e w' ⟨rfl, rfl⟩))
    all_goals (go_ret; unfold wantB; exact ⟨ret_bool (by first | (simp [*, beqI]; done) | (subst_vars; simp [*, beqI]; done) | (simp [*, beqI]; intros; omega) | (simp_all [beqI]; done)), by (repeat' (first | (with_reducible exact Below.refl _ _) | (with_reducible assumption) | (with_reducible refine Below.alloc ?_ ?_ _) | (with_reducible refine Below.drew ?_) | (with_reducible refine Below.setCell ?_ ?_ _) | (with_reducible refine bstep (by assumption) ?_ ?_) | (with_reducible exact Nat.le_refl _) | omega | (simp [*]; done) | (simp [*]; omega)))⟩)
  by_cases h3 : k = 3
  · subst h3
    go_enter Tryz.func94, Tryz.ntmps94
    go_wp2_with (first | (go_at_call 69; refine (opOk_any _ _ _ _ _ _).mono ?_; rintro e w1 ⟨rfl, hb'⟩; (first | (have hb2 := bstep hb' hb hb.size; clear hb' hcb hfb hz1 hz2 hz3 hz4 hb; have hb := hb2; clear hb2) | (have hb := hb'; clear hb')); obtain ⟨hcb, hfb, hz1, hz2, hz3, hz4⟩ := bcell hb; (try simp only [World.size_alloc, World.size_setCell, World.size_drew, Nat.lt_add_one_iff, Nat.add_assoc, Nat.reduceAdd] at hz1 hz2 hz3 hz4)) | (go_at_call 107; refine (keyOk_any _ _).mono ?_; rintro e w' ⟨rfl, rfl⟩))
    all_goals (go_ret; unfold wantB; exact ⟨ret_bool (by first | (simp [*, beqI]; done) | (subst_vars; simp [*, beqI]; done) | (simp [*, beqI]; intros; omega) | (simp_all [beqI]; done)), by (repeat' (first | (with_reducible exact Below.refl _ _) | (with_reducible assumption) | (with_reducible refine Below.alloc ?_ ?_ _) | (with_reducible refine Below.drew ?_) | (with_reducible refine Below.setCell ?_ ?_ _) | (with_reducible refine bstep (by assumption) ?_ ?_) | (with_reducible exact Nat.le_refl _) | omega | (simp [*]; done) | (simp [*]; omega)))⟩)
  by_cases h4 : k = 4
  · subst h4
    go_enter Tryz.func94, Tryz.ntmps94
    go_wp2_with (first | (go_at_call 69; refine (opOk_any _ _ _ _ _ _).mono ?_; rintro e w1 ⟨rfl, hb'⟩; (first | (have hb2 := bstep hb' hb hb.size; clear hb' hcb hfb hz1 hz2 hz3 hz4 hb; have hb := hb2; clear hb2) | (have hb := hb'; clear hb')); obtain ⟨hcb, hfb, hz1, hz2, hz3, hz4⟩ := bcell hb; (try simp only [World.size_alloc, World.size_setCell, World.size_drew, Nat.lt_add_one_iff, Nat.add_assoc, Nat.reduceAdd] at hz1 hz2 hz3 hz4)) | (go_at_call 107; refine (keyOk_any _ _).mono ?_; rintro e w' ⟨rfl, rfl⟩))
    all_goals (go_ret; unfold wantB; exact ⟨ret_bool (by first | (simp [*, beqI]; done) | (subst_vars; simp [*, beqI]; done) | (simp [*, beqI]; intros; omega) | (simp_all [beqI]; done)), by (repeat' (first | (with_reducible exact Below.refl _ _) | (with_reducible assumption) | (with_reducible refine Below.alloc ?_ ?_ _) | (with_reducible refine Below.drew ?_) | (with_reducible refine Below.setCell ?_ ?_ _) | (with_reducible refine bstep (by assumption) ?_ ?_) | (with_reducible exact Nat.le_refl _) | omega | (simp [*]; done) | (simp [*]; omega)))⟩)
  go_enter Tryz.func94, Tryz.ntmps94
  go_wp2
  all_goals (go_ret; unfold wantB; exact ⟨ret_bool (by first | (simp [*, beqI]; done) | (subst_vars; simp [*, beqI]; done) | (simp [*, beqI]; intros; omega) | (simp_all [beqI]; done)), by (repeat' (first | (with_reducible exact Below.refl _ _) | (with_reducible assumption) | (with_reducible refine Below.alloc ?_ ?_ _) | (with_reducible refine Below.drew ?_) | (with_reducible refine Below.setCell ?_ ?_ _) | (with_reducible refine bstep (by assumption) ?_ ?_) | (with_reducible exact Nat.le_refl _) | omega | (simp [*]; done) | (simp [*]; omega)))⟩)
set_option maxHeartbeats 1000000 in
theorem gotOk_any (k o a b c d y q x h v seq last : Int) (w : World) :
    Calls Tryz.prog 48 #[.agg #[.int .i64 k, .int .i64 o, .int .i64 a, .int .i64 b, .int .i64 c, .int .i64 d, .int .i64 y], .agg #[.int .i64 q, .int .i64 x, .int .i64 h, .int .i64 v], .int .i64 seq, .int .i64 last] w fun e' w' => e' = .returned (.bool (gotB k q x h v seq last)) ∧ Below w.heap.size w w' := by
  by_cases h4 : k = 4
  · subst h4
    go_enter Tryz.func48, Tryz.ntmps48
    go_wp2_with (first | (go_at_call 59; refine (between_any _ _ _ _).mono ?_; rintro e w' ⟨rfl, rfl⟩) | (go_at_call 95; refine (foundOk_any _ _ _).mono ?_; rintro e w' ⟨rfl, rfl⟩))
    all_goals (go_ret; unfold gotB; exact ⟨ret_bool (by first | (simp [*, beqI]; done) | (subst_vars; simp [*, beqI]; done) | (simp [*, beqI]; intros; omega) | (simp_all [beqI]; done)), by (repeat' (first | (with_reducible exact Below.refl _ _) | (with_reducible assumption) | (with_reducible refine Below.alloc ?_ ?_ _) | (with_reducible refine Below.drew ?_) | (with_reducible refine Below.setCell ?_ ?_ _) | (with_reducible refine bstep (by assumption) ?_ ?_) | (with_reducible exact Nat.le_refl _) | omega | (simp [*]; done) | (simp [*]; omega)))⟩)
  · go_enter Tryz.func48, Tryz.ntmps48
    go_wp2_with (first | (go_at_call 59; refine (between_any _ _ _ _).mono ?_; rintro e w' ⟨rfl, rfl⟩) | (go_at_call 95; refine (foundOk_any _ _ _).mono ?_; rintro e w' ⟨rfl, rfl⟩))
    all_goals (go_ret; unfold gotB; exact ⟨ret_bool (by first | (simp [*, beqI]; done) | (subst_vars; simp [*, beqI]; done) | (simp [*, beqI]; intros; omega) | (simp_all [beqI]; done)), by (repeat' (first | (with_reducible exact Below.refl _ _) | (with_reducible assumption) | (with_reducible refine Below.alloc ?_ ?_ _) | (with_reducible refine Below.drew ?_) | (with_reducible refine Below.setCell ?_ ?_ _) | (with_reducible refine bstep (by assumption) ?_ ?_) | (with_reducible exact Nat.le_refl _) | omega | (simp [*]; done) | (simp [*]; omega)))⟩)
end Go.Proofs.YtbheflinchabgaaGreatDoor
namespace Go.Proofs.YtbheflinchabgaaGreatDoor
set_option linter.unusedSimpArgs false
set_option linter.unusedVariables false
attribute [local go_sem] n_lt2 n_lt3 n_lt4 n_le2 n_le3
open Go.RowKit

/-- vs laid over cs from o on. -/
def over (cs : Array Value) : Nat → List Value → Array Value
  | _, [] => cs
  | o, v :: r => over (cs.setIfInBounds o v) (o + 1) r
theorem Blk.over {g : Nat} {e : TypeId} : ∀ (vs : List Value) (cs : Array Value) (o : Nat) (w : World), Blk w g e cs → Blk (w.setCells g o vs) g e (over cs o vs)
  | [], _, _, _, h => h
  | v :: r, cs, o, w, h => Blk.over r _ (o + 1) _ (h.set_ o v)
theorem getD_drop (l : List Int) (a t : Nat) : (l.drop a).getD t 0 = l.getD (a + t) 0 := by simp [List.getD]
theorem getD_take (l : List Int) (a t : Nat) (h : t < a) : (l.take a).getD t 0 = l.getD t 0 := by simp [List.getD, List.getElem?_take, h]
theorem Sl.sub {w : World} {b off n : Nat} {zs : List Int} (h : Sl w 1 (some ⟨b, off, none⟩) n zs) (k m : Nat) (hm : k + m ≤ n) : Sl w 1 (some ⟨b, off + k, none⟩) m ((zs.drop k).take m) := by
  have hl := h.len
  refine ⟨by simp; omega, fun hm0 => ?_⟩
  obtain ⟨b', off', hA, hb, hc⟩ := h.at_ (by omega)
  injection hA with hA
  injection hA with h1 h2
  subst h1 h2
  refine ⟨b, off + k, rfl, hb, fun j hj => ?_⟩
  rw [getD_take _ _ _ (by omega), getD_drop, Nat.add_assoc]
  exact hc (k + j) (by omega)
end Go.Proofs.YtbheflinchabgaaGreatDoor
namespace Go.Proofs.YtbheflinchabgaaGreatDoor
set_option linter.unusedSimpArgs false
set_option linter.unusedVariables false
attribute [local go_sem] n_lt2 n_lt3 n_lt4 n_le2 n_le3
open Go.RowKit

theorem calls_named {P : Program} {f : FuncId} {args : Array Value} {w : World} {Q : Ending → World → Prop} (h : ∀ w', w' = w → Calls P f args w' Q) : Calls P f args w Q := h w rfl
end Go.Proofs.YtbheflinchabgaaGreatDoor
namespace Go.Proofs.YtbheflinchabgaaGreatDoor
set_option linter.unusedSimpArgs false
set_option linter.unusedVariables false
attribute [local go_sem] n_lt2 n_lt3 n_lt4 n_le2 n_le3
open Go.RowKit
theorem Blk.new_at (w : World) (e : TypeId) (cs : Array Value) (g : Nat) (hg : g = w.heap.size) : Blk (w.alloc (.cells cs e)) g e cs := by
  subst hg
  exact Blk.new w e cs
theorem Row.alloc {w : World} {lo : Nat} {e : TypeId} {s : Nat} {A : Option Addr} {n cap : Nat} {zs : List Int} (h : Row w lo e s A n cap zs) (o : Obj) : Row (w.alloc o) lo e s A n cap zs := World.ownsRow.alloc h o
theorem Row.drew {w : World} {lo : Nat} {e : TypeId} {s : Nat} {A : Option Addr} {n cap : Nat} {zs : List Int} (h : Row w lo e s A n cap zs) : Row w.drew lo e s A n cap zs := h
theorem Row.far {w : World} {lo : Nat} {e : TypeId} {s : Nat} {A : Option Addr} {n cap : Nat} {zs : List Int} (h : Row w lo e s A n cap zs) {p : Addr} (hp : ∀ a, A = some a → a.block ≠ p.block) (u : Value) : Row (w.setCell p u) lo e s A n cap zs :=
  h.keep (fun a ha => Below.heap_setCell w p u a.block (hp a ha))
theorem Sl.alloc {w : World} {s : Nat} {A : Option Addr} {n : Nat} {zs : List Int} (h : Sl w s A n zs) (o : Obj) : Sl (w.alloc o) s A n zs := h.below ((Below.refl _ _).alloc (Nat.le_refl _) o)
theorem Sl.far {w : World} {s : Nat} {A : Option Addr} {n : Nat} {zs : List Int} (h : Sl w s A n zs) {p : Addr} (hp : 0 < n → ∀ a, A = some a → a.block ≠ p.block) (u : Value) : Sl (w.setCell p u) s A n zs := by
  refine ⟨h.1, fun hn => ?_⟩
  obtain ⟨b, off, rfl, hb, hj⟩ := h.2 hn
  refine ⟨b, off, rfl, by simpa [World.setCell] using hb, fun j hjn => ?_⟩
  rw [World.cell?_of_block (Below.heap_setCell w p u b (hp hn _ rfl))]
  exact hj j hjn
theorem size_set (w : World) (p : Addr) (u : Value) : (w.setCell p u).heap.size = w.heap.size := by simp [World.setCell]
end Go.Proofs.YtbheflinchabgaaGreatDoor
namespace Go.Proofs.YtbheflinchabgaaGreatDoor
set_option linter.unusedSimpArgs false
set_option linter.unusedVariables false
attribute [local go_sem] n_lt2 n_lt3 n_lt4 n_le2 n_le3
open Go.RowKit
theorem wantsB_false {wl : List Wt} {k : Nat} (hk : k < wl.length) (h : wantOkB (wl.getD k default) = false) : wantsB wl = false := all_range_false hk h
theorem clientB_id {i0 t0 : Int} {wl : List Wt} {gl : List Gt} (h4 : ¬ i0 = 4) (h5 : ¬ i0 = 5) : clientB i0 wl gl t0 = false := by unfold clientB; simp [h4, h5]
theorem clientB_todo {i0 t0 : Int} {wl : List Wt} {gl : List Gt} (h : wantsB wl = false ∨ 12 < wl.length) : clientB i0 wl gl t0 = false := by
  unfold clientB
  rcases h with h | h
  · rw [h]; simp
  · rw [show decide (wl.length ≤ 12) = false from decide_eq_false (by omega)]; simp
theorem clientB_len {i0 t0 : Int} {wl : List Wt} {gl : List Gt} (h : wl.length < gl.length) : clientB i0 wl gl t0 = false := by
  unfold clientB
  rw [show decide (gl.length ≤ wl.length) = false from decide_eq_false (by omega)]; simp
theorem clientB_got {i0 t0 : Int} {wl : List Wt} {gl : List Gt} {k : Nat} (hk : k < gl.length) (h : gotAt wl gl k = false) : clientB i0 wl gl t0 = false := by
  unfold clientB gotsB
  rw [all_range_false hk h]; simp
theorem clientB_last {i0 t0 : Int} {wl : List Wt} {gl : List Gt} (h : i0 = 4 ∨ i0 = 5) (h1 : wantsB wl = true) (h2 : wl.length ≤ 12) (h3 : gl.length ≤ wl.length) (h4 : ∀ j, j < gl.length → gotAt wl gl j = true) : clientB i0 wl gl t0 = decide (t0 = lastAt gl gl.length) := by
  unfold clientB gotsB
  rw [h1, all_range_true h4, decide_eq_true h2, decide_eq_true h3]
  rcases h with h | h <;> subst h <;> simp
theorem gotAt_eq {wl : List Wt} {gl : List Gt} {k : Nat} {p : Wt} {q : Gt} (hp : wl.getD k default = p) (hq : gl.getD k default = q) : gotAt wl gl k = gotB p.k q.q q.x q.h q.v ((k : Int) + 1) (lastAt gl k) := by
  unfold gotAt; rw [hp, hq]
theorem lastAt_succ {gl : List Gt} {k : Nat} {q : Gt} (hq : gl.getD k default = q) : lastAt gl (k + 1) = q.x := by
  unfold lastAt
  rw [if_neg (by omega), Nat.add_sub_cancel, hq]
attribute [local go_sem] Ext.cell Ext.frozen
set_option maxHeartbeats 2000000 in
theorem todoOk_any (A : Option Addr) (n cap : Nat) (wl : List Wt) (w : World) (hP : Sl w 7 A n (WT wl)) (hl : wl.length = n) (hn : n ≤ maxLen) :
    Calls Tryz.prog 47 #[.slice A n cap] w fun e' w' => e' = .returned (.bool (wantsB wl && decide (n ≤ 12))) ∧ Below w.heap.size w w' := by
  have hL := Lib.hid hl
  have HP := Lib.hid hP
  clear hl hP
  unfold maxLen at hn
  go_enter Tryz.func47, Tryz.ntmps47
  go_wp2
  go_loopw [7] (fun i wr => ∃ k : Nat, k ≤ n ∧ i = .int .i64 k ∧ Below w.heap.size w wr ∧ Hid (∀ j, j < k → wantOkB (wl.getD j default) = true)) (fun i _ => n - (intOf i).toNat)
  case atStart => exact ⟨0, Nat.zero_le _, rfl, Below.refl _ _, Lib.hid (fun j hj => absurd hj (by omega))⟩
  case round =>
    obtain ⟨j, hk, rfl, hbl, hall⟩ := hrel
    by_cases hlt : j < n
    · obtain ⟨bb, off, rfl, hb, hcell⟩ := sl_wants HP.out (by omega)
      obtain ⟨h0, h1, h2, h3, h4, h5, h6⟩ := hcell j hlt
      clear hcell
      rw [← hbl.cell (by exact hb)] at h0 h1 h2 h3 h4 h5 h6
      generalize hp : wl.getD j default = p at h0 h1 h2 h3 h4 h5 h6
      obtain ⟨k, o, a, b, c, d, y⟩ := p
      simp only at h0 h1 h2 h3 h4 h5 h6
      have HPP := Lib.hid hp
      clear hp
      have hbr : bb < wr.heap.size := Nat.lt_of_lt_of_le hb hbl.size
      have hc := fun w0 => wantOk_any k o a b c d y w0
      cases hq : wantB k o a b c d y with
      | true =>
        have hq' := Lib.hid hq
        rw [hq] at hc
        clear hq
        go_wp2_with fail
        refine (hc _).mono ?_
        rintro e w1 ⟨rfl, b1⟩
        have hfr : Below w.heap.size w w1 := bstep b1 (hbl.alloc hbl.size _) (by have := hbl.size; simp; omega)
        go_wp21
        exact ⟨⟨j + 1, by omega, by go_num, hfr, Lib.hid (upto_succ hall.out (by rw [HPP.out]; exact hq'.out))⟩, by simp [intOf]; omega⟩
      | false =>
        have hq' := Lib.hid hq
        rw [hq] at hc
        clear hq
        go_wp2_with fail
        refine (hc _).mono ?_
        rintro e w1 ⟨rfl, b1⟩
        have hfr : Below w.heap.size w w1 := bstep b1 (hbl.alloc hbl.size _) (by have := hbl.size; simp; omega)
        go_wp21
        go_ret
        exact ⟨ret_bool (by rw [wantsB_false (hL.out.symm ▸ hlt) (by rw [HPP.out]; exact hq'.out)]; rfl), hfr⟩
    · have hkn : j = n := by omega
      subst hkn
      go_wp21
      go_ret
      have hw : wantsB wl = true := all_range_true (hL.out.symm ▸ hall.out)
      exact ⟨ret_bool (by rw [hw]; by_cases h : j ≤ 12 <;> simp [h] <;> omega), hbl⟩
set_option maxRecDepth 100000 in
set_option maxHeartbeats 4000000 in
theorem clientOk_any (A : Option Addr) (n c : Nat) (B : Option Addr) (m d : Nat) (i0 t0 : Int) (wl : List Wt) (gl : List Gt) (w : World) (hP : Sl w 7 A n (WT wl)) (hQ : Sl w 4 B m (GT gl)) (hl : wl.length = n) (hr : gl.length = m) (hn : n ≤ maxLen) (hm : m ≤ maxLen) :
    Calls Tryz.prog 20 #[.agg #[.int .i64 i0, .slice A n c, .slice B m d, .int .i64 t0]] w fun e' w' => e' = .returned (.bool (clientB i0 wl gl t0)) ∧ Below w.heap.size w w' := by
  have hL := Lib.hid hl
  have hR := Lib.hid hr
  have HP := Lib.hid hP
  have HQ := Lib.hid hQ
  clear hP hQ hl hr
  have hm0 := hn
  unfold maxLen at hn hm
  by_cases hid : i0 = 4 ∨ i0 = 5
  rotate_left
  · have h4 : ¬ i0 = 4 := fun h => hid (.inl h)
    have h5 : ¬ i0 = 5 := fun h => hid (.inr h)
    have hv := Lib.hid (clientB_id (t0 := t0) (wl := wl) (gl := gl) h4 h5)
    clear hid
    go_enter Tryz.func20, Tryz.ntmps20
    go_wp21
    go_ret
    exact ⟨ret_bool hv.out.symm, by (repeat' (first | (with_reducible exact Below.refl _ _) | (with_reducible assumption) | (with_reducible refine Below.alloc ?_ ?_ _) | (with_reducible refine Below.drew ?_) | (with_reducible refine Below.setCell ?_ ?_ _) | (with_reducible refine bstep (by assumption) ?_ ?_) | (with_reducible exact Nat.le_refl _) | omega | (simp [*]; done) | (simp [*]; omega)))⟩
  have HI := Lib.hid hid
  rcases hid with rfl | rfl
  · go_enter Tryz.func20, Tryz.ntmps20
    go_wp2_with fail
    refine calls_named ?_
    rintro v0 hv0
    have f0 : Below w.heap.size w v0 := by rw [hv0]; (repeat' (first | (with_reducible exact Below.refl _ _) | (with_reducible assumption) | (with_reducible refine Below.alloc ?_ ?_ _) | (with_reducible refine Below.drew ?_) | (with_reducible refine Below.setCell ?_ ?_ _) | (with_reducible refine bstep (by assumption) ?_ ?_) | (with_reducible exact Nat.le_refl _) | omega | (simp [*]; done) | (simp [*]; omega)))
    have HK := Lib.hid (show Blk v0 w.heap.size 35 #[.int .i64 4, .slice A n c, .slice B m d, .int .i64 t0] by rw [hv0]; exact Blk.new _ _ _)
    clear hv0
    have c1 := todoOk_any A n c wl v0 (HP.out.below f0) hL.out hm0
    cases hw : (wantsB wl && decide (n ≤ 12)) with
    | false =>
      rw [hw] at c1
      have hv := Lib.hid (show clientB 4 wl gl t0 = false from clientB_todo (by
        have := hL.out
        rcases Bool.and_eq_false_iff.1 hw with h | h
        · exact .inl h
        · exact .inr (by simpa [this] using h)))
      clear hw
      refine c1.mono ?_
      rintro e v1 ⟨rfl, b1⟩
      go_wp21
      go_ret
      exact ⟨ret_bool hv.out.symm, bthen f0 b1⟩
    | true =>
      rw [hw] at c1
      have hw2 : wantsB wl = true ∧ n ≤ 12 := by simpa using hw
      have HW := Lib.hid hw2.1
      have hn12 := hw2.2
      clear hw hw2
      refine c1.mono ?_
      rintro e v1 ⟨rfl, b1⟩
      have f1 := bthen f0 b1
      have HK1 := Lib.hid (HK.out.below b1)
      clear HK c1
      have lt_c := HK1.out.lt
      obtain ⟨r_c0, r_c1, r_c2, r_c3⟩ := bc4 HK1.out
      by_cases hmn : n < m
      · have hmn' : (n : Int) < (m : Int) := by omega
        have hv := Lib.hid (show clientB 4 wl gl t0 = false from clientB_len (by rw [hL.out, hR.out]; exact hmn))
        go_wp21
        go_ret
        exact ⟨ret_bool hv.out.symm, f1⟩
      have hmn' : ¬ (n : Int) < (m : Int) := by omega
      go_wp21
      clear lt_c r_c0 r_c1 r_c2 r_c3
      go_loopw [3, 32] (fun lv iv wr => ∃ j : Nat, j ≤ m ∧ lv = .int .i64 (lastAt gl j) ∧ iv = .int .i64 j ∧ Below w.heap.size w wr ∧ Hid (Blk wr w.heap.size 35 #[.int .i64 4, .slice A n c, .slice B m d, .int .i64 t0]) ∧ Hid (∀ i, i < j → gotAt wl gl i = true)) (fun _ iv _ => m - (intOf iv).toNat)
      case atStart => exact ⟨0, Nat.zero_le _, rfl, rfl, f1, HK1, Lib.hid (fun j hj => absurd hj (by omega))⟩
      case round =>
        obtain ⟨j, hj, rfl, rfl, hbl, HKr, hall⟩ := hrel
        have lt_c := HKr.out.lt
        obtain ⟨r_c0, r_c1, r_c2, r_c3⟩ := bc4 HKr.out
        by_cases hlt : j < m
        · have hlt' : (j : Int) < (m : Int) := by omega
          have hjn : j < n := by omega
          obtain ⟨bw, ow, rfl, hbw, hcw⟩ := sl_wants HP.out (by omega)
          obtain ⟨bg, og, rfl, hbg, hcg⟩ := sl_gots HQ.out (by omega)
          obtain ⟨h0, h1, h2, h3, h4, h5, h6⟩ := hcw j hjn
          obtain ⟨p0, p1, p2, p3⟩ := hcg j hlt
          clear hcw hcg
          rw [← hbl.cell (by exact hbw)] at h0 h1 h2 h3 h4 h5 h6
          rw [← hbl.cell (by exact hbg)] at p0 p1 p2 p3
          generalize hp : wl.getD j default = p at h0 h1 h2 h3 h4 h5 h6
          generalize hq : gl.getD j default = q at p0 p1 p2 p3
          have HG := Lib.hid (gotAt_eq hp hq)
          have HS1 := Lib.hid (lastAt_succ hq)
          obtain ⟨k, o, a, b, c0, d0, y⟩ := p
          obtain ⟨q, x, h, v⟩ := q
          simp only at h0 h1 h2 h3 h4 h5 h6 p0 p1 p2 p3 HG HS1
          clear hp hq
          have hbrw : bw < wr.heap.size := Nat.lt_of_lt_of_le hbw hbl.size
          have hbrg : bg < wr.heap.size := Nat.lt_of_lt_of_le hbg hbl.size
          generalize lastAt gl j = la at HG ⊢
          have hwk : IntKind.i64.wrap ((j : Int) + 1) = (j : Int) + 1 := by simp [IntKind.wrap, IntKind.bits, IntKind.signed]; omega
          have hc := fun w0 => gotOk_any k o a b c0 d0 y q x h v ((j : Int) + 1) la w0
          cases hq : gotB k q x h v ((j : Int) + 1) la with
          | true =>
            rw [hq] at hc HG
            clear hq
            go_wp2
            ((refine wp_region_ext (by kernel_rfl) (by kernel_rfl) ?_); (repeat (any_goals (first | go_big_quiet_step ((go_at_call 48; exact quiet_ext (hc _))) | (refine wpQuiet_step (fun K hK => ?_); go_simp; split <;> (refine hK _ ?_; clear hK K)) | quiet_step ((go_at_call 48; exact quiet_ext (hc _)))))); (all_goals (refine wpQuiet_nil ?_; rintro _ ⟨z, rfl⟩; have hb' := z.h; generalize z.w = w1 at hb' ⊢; clear z; (first | (have hb2 := bstep hb' hb hb.size; clear hb' hcb hfb hz1 hz2 hz3 hz4 hb; have hb := hb2; clear hb2) | (have hb := hb'; clear hb')); obtain ⟨hcb, hfb, hz1, hz2, hz3, hz4⟩ := bcell hb; (try simp only [World.size_alloc, World.size_setCell, World.size_drew, Nat.lt_add_one_iff, Nat.add_assoc, Nat.reduceAdd] at hz1 hz2 hz3 hz4))))
            have hfr : Below w.heap.size w w1 := bstep hb (hbl.alloc hbl.size _) (by have := hbl.size; simp; omega)
            have HK9 := Lib.hid ((HKr.out.alloc _).below hb)
            go_wp21
            exact ⟨⟨j + 1, by omega, by rw [HS1.out], by go_num, hfr, HK9, Lib.hid (upto_succ hall.out HG.out)⟩, by simp [intOf]; omega⟩
          | false =>
            rw [hq] at hc HG
            clear hq
            have hv := Lib.hid (show clientB 4 wl gl t0 = false from clientB_got (by rw [hR.out]; exact hlt) HG.out)
            go_wp2
            ((refine wp_region_ext (by kernel_rfl) (by kernel_rfl) ?_); (repeat (any_goals (first | go_big_quiet_step ((go_at_call 48; exact quiet_ext (hc _))) | (refine wpQuiet_step (fun K hK => ?_); go_simp; split <;> (refine hK _ ?_; clear hK K)) | quiet_step ((go_at_call 48; exact quiet_ext (hc _)))))); (all_goals (refine wpQuiet_nil ?_; rintro _ ⟨z, rfl⟩; have hb' := z.h; generalize z.w = w1 at hb' ⊢; clear z; (first | (have hb2 := bstep hb' hb hb.size; clear hb' hcb hfb hz1 hz2 hz3 hz4 hb; have hb := hb2; clear hb2) | (have hb := hb'; clear hb')); obtain ⟨hcb, hfb, hz1, hz2, hz3, hz4⟩ := bcell hb; (try simp only [World.size_alloc, World.size_setCell, World.size_drew, Nat.lt_add_one_iff, Nat.add_assoc, Nat.reduceAdd] at hz1 hz2 hz3 hz4))))
            have hfr : Below w.heap.size w w1 := bstep hb (hbl.alloc hbl.size _) (by have := hbl.size; simp; omega)
            go_wp21
            go_ret
            exact ⟨ret_bool hv.out.symm, hfr⟩
        · have hkn : j = m := by omega
          subst hkn
          have hlt' : ¬ (j : Int) < (j : Int) := by omega
          have hv := Lib.hid (show clientB 4 wl gl t0 = decide (t0 = lastAt gl gl.length) from clientB_last (by first | exact .inl rfl | exact .inr rfl) HW.out (by rw [hL.out]; exact hn12) (by rw [hL.out, hR.out]; omega) (by rw [hR.out]; exact hall.out))
          rw [hR.out] at hv
          generalize lastAt gl j = la at hv ⊢
          go_wp21
          go_ret
          exact ⟨ret_bool (by rw [hv.out, beqI]), hbl⟩
  · go_enter Tryz.func20, Tryz.ntmps20
    go_wp2_with fail
    refine calls_named ?_
    rintro v0 hv0
    have f0 : Below w.heap.size w v0 := by rw [hv0]; (repeat' (first | (with_reducible exact Below.refl _ _) | (with_reducible assumption) | (with_reducible refine Below.alloc ?_ ?_ _) | (with_reducible refine Below.drew ?_) | (with_reducible refine Below.setCell ?_ ?_ _) | (with_reducible refine bstep (by assumption) ?_ ?_) | (with_reducible exact Nat.le_refl _) | omega | (simp [*]; done) | (simp [*]; omega)))
    have HK := Lib.hid (show Blk v0 w.heap.size 35 #[.int .i64 5, .slice A n c, .slice B m d, .int .i64 t0] by rw [hv0]; exact Blk.new _ _ _)
    clear hv0
    have c1 := todoOk_any A n c wl v0 (HP.out.below f0) hL.out hm0
    cases hw : (wantsB wl && decide (n ≤ 12)) with
    | false =>
      rw [hw] at c1
      have hv := Lib.hid (show clientB 5 wl gl t0 = false from clientB_todo (by
        have := hL.out
        rcases Bool.and_eq_false_iff.1 hw with h | h
        · exact .inl h
        · exact .inr (by simpa [this] using h)))
      clear hw
      refine c1.mono ?_
      rintro e v1 ⟨rfl, b1⟩
      go_wp21
      go_ret
      exact ⟨ret_bool hv.out.symm, bthen f0 b1⟩
    | true =>
      rw [hw] at c1
      have hw2 : wantsB wl = true ∧ n ≤ 12 := by simpa using hw
      have HW := Lib.hid hw2.1
      have hn12 := hw2.2
      clear hw hw2
      refine c1.mono ?_
      rintro e v1 ⟨rfl, b1⟩
      have f1 := bthen f0 b1
      have HK1 := Lib.hid (HK.out.below b1)
      clear HK c1
      have lt_c := HK1.out.lt
      obtain ⟨r_c0, r_c1, r_c2, r_c3⟩ := bc4 HK1.out
      by_cases hmn : n < m
      · have hmn' : (n : Int) < (m : Int) := by omega
        have hv := Lib.hid (show clientB 5 wl gl t0 = false from clientB_len (by rw [hL.out, hR.out]; exact hmn))
        go_wp21
        go_ret
        exact ⟨ret_bool hv.out.symm, f1⟩
      have hmn' : ¬ (n : Int) < (m : Int) := by omega
      go_wp21
      clear lt_c r_c0 r_c1 r_c2 r_c3
      go_loopw [3, 32] (fun lv iv wr => ∃ j : Nat, j ≤ m ∧ lv = .int .i64 (lastAt gl j) ∧ iv = .int .i64 j ∧ Below w.heap.size w wr ∧ Hid (Blk wr w.heap.size 35 #[.int .i64 5, .slice A n c, .slice B m d, .int .i64 t0]) ∧ Hid (∀ i, i < j → gotAt wl gl i = true)) (fun _ iv _ => m - (intOf iv).toNat)
      case atStart => exact ⟨0, Nat.zero_le _, rfl, rfl, f1, HK1, Lib.hid (fun j hj => absurd hj (by omega))⟩
      case round =>
        obtain ⟨j, hj, rfl, rfl, hbl, HKr, hall⟩ := hrel
        have lt_c := HKr.out.lt
        obtain ⟨r_c0, r_c1, r_c2, r_c3⟩ := bc4 HKr.out
        by_cases hlt : j < m
        · have hlt' : (j : Int) < (m : Int) := by omega
          have hjn : j < n := by omega
          obtain ⟨bw, ow, rfl, hbw, hcw⟩ := sl_wants HP.out (by omega)
          obtain ⟨bg, og, rfl, hbg, hcg⟩ := sl_gots HQ.out (by omega)
          obtain ⟨h0, h1, h2, h3, h4, h5, h6⟩ := hcw j hjn
          obtain ⟨p0, p1, p2, p3⟩ := hcg j hlt
          clear hcw hcg
          rw [← hbl.cell (by exact hbw)] at h0 h1 h2 h3 h4 h5 h6
          rw [← hbl.cell (by exact hbg)] at p0 p1 p2 p3
          generalize hp : wl.getD j default = p at h0 h1 h2 h3 h4 h5 h6
          generalize hq : gl.getD j default = q at p0 p1 p2 p3
          have HG := Lib.hid (gotAt_eq hp hq)
          have HS1 := Lib.hid (lastAt_succ hq)
          obtain ⟨k, o, a, b, c0, d0, y⟩ := p
          obtain ⟨q, x, h, v⟩ := q
          simp only at h0 h1 h2 h3 h4 h5 h6 p0 p1 p2 p3 HG HS1
          clear hp hq
          have hbrw : bw < wr.heap.size := Nat.lt_of_lt_of_le hbw hbl.size
          have hbrg : bg < wr.heap.size := Nat.lt_of_lt_of_le hbg hbl.size
          generalize lastAt gl j = la at HG ⊢
          have hwk : IntKind.i64.wrap ((j : Int) + 1) = (j : Int) + 1 := by simp [IntKind.wrap, IntKind.bits, IntKind.signed]; omega
          have hc := fun w0 => gotOk_any k o a b c0 d0 y q x h v ((j : Int) + 1) la w0
          cases hq : gotB k q x h v ((j : Int) + 1) la with
          | true =>
            rw [hq] at hc HG
            clear hq
            go_wp2
            ((refine wp_region_ext (by kernel_rfl) (by kernel_rfl) ?_); (repeat (any_goals (first | go_big_quiet_step ((go_at_call 48; exact quiet_ext (hc _))) | (refine wpQuiet_step (fun K hK => ?_); go_simp; split <;> (refine hK _ ?_; clear hK K)) | quiet_step ((go_at_call 48; exact quiet_ext (hc _)))))); (all_goals (refine wpQuiet_nil ?_; rintro _ ⟨z, rfl⟩; have hb' := z.h; generalize z.w = w1 at hb' ⊢; clear z; (first | (have hb2 := bstep hb' hb hb.size; clear hb' hcb hfb hz1 hz2 hz3 hz4 hb; have hb := hb2; clear hb2) | (have hb := hb'; clear hb')); obtain ⟨hcb, hfb, hz1, hz2, hz3, hz4⟩ := bcell hb; (try simp only [World.size_alloc, World.size_setCell, World.size_drew, Nat.lt_add_one_iff, Nat.add_assoc, Nat.reduceAdd] at hz1 hz2 hz3 hz4))))
            have hfr : Below w.heap.size w w1 := bstep hb (hbl.alloc hbl.size _) (by have := hbl.size; simp; omega)
            have HK9 := Lib.hid ((HKr.out.alloc _).below hb)
            go_wp21
            exact ⟨⟨j + 1, by omega, by rw [HS1.out], by go_num, hfr, HK9, Lib.hid (upto_succ hall.out HG.out)⟩, by simp [intOf]; omega⟩
          | false =>
            rw [hq] at hc HG
            clear hq
            have hv := Lib.hid (show clientB 5 wl gl t0 = false from clientB_got (by rw [hR.out]; exact hlt) HG.out)
            go_wp2
            ((refine wp_region_ext (by kernel_rfl) (by kernel_rfl) ?_); (repeat (any_goals (first | go_big_quiet_step ((go_at_call 48; exact quiet_ext (hc _))) | (refine wpQuiet_step (fun K hK => ?_); go_simp; split <;> (refine hK _ ?_; clear hK K)) | quiet_step ((go_at_call 48; exact quiet_ext (hc _)))))); (all_goals (refine wpQuiet_nil ?_; rintro _ ⟨z, rfl⟩; have hb' := z.h; generalize z.w = w1 at hb' ⊢; clear z; (first | (have hb2 := bstep hb' hb hb.size; clear hb' hcb hfb hz1 hz2 hz3 hz4 hb; have hb := hb2; clear hb2) | (have hb := hb'; clear hb')); obtain ⟨hcb, hfb, hz1, hz2, hz3, hz4⟩ := bcell hb; (try simp only [World.size_alloc, World.size_setCell, World.size_drew, Nat.lt_add_one_iff, Nat.add_assoc, Nat.reduceAdd] at hz1 hz2 hz3 hz4))))
            have hfr : Below w.heap.size w w1 := bstep hb (hbl.alloc hbl.size _) (by have := hbl.size; simp; omega)
            go_wp21
            go_ret
            exact ⟨ret_bool hv.out.symm, hfr⟩
        · have hkn : j = m := by omega
          subst hkn
          have hlt' : ¬ (j : Int) < (j : Int) := by omega
          have hv := Lib.hid (show clientB 5 wl gl t0 = decide (t0 = lastAt gl gl.length) from clientB_last (by first | exact .inl rfl | exact .inr rfl) HW.out (by rw [hL.out]; exact hn12) (by rw [hL.out, hR.out]; omega) (by rw [hR.out]; exact hall.out))
          rw [hR.out] at hv
          generalize lastAt gl j = la at hv ⊢
          go_wp21
          go_ret
          exact ⟨ret_bool (by rw [hv.out, beqI]), hbl⟩
end Go.Proofs.YtbheflinchabgaaGreatDoor
namespace Go.Proofs.YtbheflinchabgaaGreatDoor
set_option linter.unusedSimpArgs false
set_option linter.unusedVariables false
attribute [local go_sem] n_lt2 n_lt3 n_lt4 n_le2 n_le3
open Go.RowKit
attribute [local go_sem] Ext.cell Ext.frozen
end Go.Proofs.YtbheflinchabgaaGreatDoor
namespace Go.Proofs.YtbheflinchabgaaGreatDoor
set_option linter.unusedSimpArgs false
set_option linter.unusedVariables false
attribute [local go_sem] n_lt2 n_lt3 n_lt4 n_le2 n_le3
open Go.RowKit
attribute [local go_sem] Ext.cell Ext.frozen


end Go.Proofs.YtbheflinchabgaaGreatDoor
namespace Go.Proofs.YtbheflinchabgaaGreatDoor
set_option linter.unusedSimpArgs false
set_option linter.unusedVariables false
attribute [local go_sem] n_lt2 n_lt3 n_lt4 n_le2 n_le3
open Go.RowKit
attribute [local go_sem] Ext.cell Ext.frozen
end Go.Proofs.YtbheflinchabgaaGreatDoor
namespace Go.Proofs.YtbheflinchabgaaGreatDoor
set_option linter.unusedSimpArgs false
set_option linter.unusedVariables false
attribute [local go_sem] n_lt2 n_lt3 n_lt4 n_le2 n_le3
open Go.RowKit
theorem slices_of {w : World} {s n : Nat} {A : Option Addr} {zs : List Int} {ad : Addr} (h : Sl w s A n zs) (hA : A = some ad) : ∀ j u, (ints zs)[j]? = some u → w.cell? (ad.add j) = some u := by
  intro j u hu
  have hj : j < zs.length := by
    rcases Nat.lt_or_ge j zs.length with h1 | h1
    · exact h1
    · rw [List.getElem?_eq_none (by rw [ints_length]; exact h1)] at hu
      exact absurd hu (by simp)
  have hl := h.len
  have hn : 0 < n := by
    rcases Nat.eq_zero_or_pos n with h0 | h0
    · rw [h0, Nat.zero_mul] at hl; omega
    · exact h0
  obtain ⟨b, off, hb, _, hc⟩ := h.at_ hn
  rw [hA] at hb
  obtain rfl := Option.some.inj hb
  have hadd : (⟨b, off, none⟩ : Addr).add j = ⟨b, off + j, none⟩ := by unfold Addr.add; split <;> simp_all
  rw [hadd, hc j (by rw [← hl]; exact hj), ← hu]
  exact (ints_get zs j hj).symm
theorem grows_below {w w' : World} (h : w.grownBy w' none) : Below w.heap.size w w' := (Below.refl w.heap.size w).grown h (Nat.le_refl _) (fun q hq => by simp at hq)
theorem run_append_nothing {P : Program} (w : World) (t ty e : TypeId) (i : TypeInfo) (ht : P.underlying t = some (.slice e)) (hi : P.info? e = some i) (b : Addr) (A : Option Addr) (c : Nat) :
    (Builtin.append_ #[t, t] ty #[.slice (some b) 0 0, .slice A 0 c]).run P w = .ok (.slice (some b) 0 0) w := by
  cases A <;> simp [Builtin.append_, run_underlying ht, sizeOf, typeInfo, hi, Builtin.lenOf, Builtin.firstCells, loadCells, loadCellsFrom, storeCells]
/-- append of the elements of a slice (of none too) onto the fresh block g of no elements. -/
theorem wp_append_copy {P : Program} {o : Oper} {a : Act} {w : World} {K : Act → World → Prop} {Q : Exit → Act → World → Prop}
    (hg : o.guard = none) (s x : Operand) (t : TypeId) (hop : o.op = Op.call { callee := Callee.builtin Builtin.append, args := #[s, x], argTypes := #[t, t] })
    (e : TypeId) (i : TypeInfo) (z : Value) (size bytes : Nat) (h1 : P.underlying t = some (.slice e)) (h2 : P.info? e = some i) (h3 : i.zero = some z) (h4 : i.size = size) (h5 : i.bytes = bytes) (h6 : z.cells.size = size) (h7 : 0 < size)
    (g : Nat) (hs : a.eval s = .slice (some ⟨g, 0, none⟩) 0 0) (lo : Nat) (A : Option Addr) (m c : Nat) (zs : List Int) (hx : a.eval x = .slice A m c)
    (b0 : m ≤ maxLen) (b1 : m * bytes ≤ 140737488355328) (hblk : Blk w g e #[]) (hlo : lo ≤ g) (hS : Sl w size A m zs)
    (hK : ∀ g' c' w', Row w' lo e size (some ⟨g', 0, none⟩) m c' zs → Below w.heap.size w w' → g' < w'.heap.size → (g' = g ∨ w.heap.size ≤ g') → K (a.put o.dst (.slice (some ⟨g', 0, none⟩) m c')) w') :
    Oper.wp P o a w K Q := by
  rcases Nat.eq_zero_or_pos m with hm | hm
  · subst hm
    have hz : zs = [] := List.eq_nil_of_length_eq_zero (by simpa using hS.len)
    subst hz
    have hrun := run_append_nothing (P := P) w t o.type e i h1 h2 ⟨g, 0, none⟩ A c
    unfold Oper.wp
    simp [execOp, hop, resolve, invoke, builtin, hs, hx, hrun, Result.andThen]
    exact hK g 0 w ⟨by simp [ints], .inr ⟨g, 0, #[], rfl, hlo, hblk, Nat.le_refl _, Nat.zero_le _, by simp, by simp [ints]⟩⟩ (Below.refl _ _) hblk.lt (.inl rfl)
  · obtain ⟨b, off, rfl, hb, hc⟩ := hS.at_ hm
    have hl := hS.len
    have hw : Region.wanted o (yielded #[] a.tmps) = true := by simp [Region.wanted, hg]
    have hst := step_append_grows (P := P) (ops := #[]) (o := o) (a := a) (w := w) (K := K) (Q := Q) (E := True) hg s x t hop e i z size bytes h1 h2 h3 h4 h5 h6 h7 (some ⟨g, 0, none⟩) 0 0 [] hs (by simp) (by simp) (fun _ _ j u hu => by simp at hu) ⟨b, off, none⟩ m c (ints zs) hx (by rw [ints_length]; exact hl)
      (slices_of hS rfl) (ints_oneCell' zs) (by omega) (by omega) (by rw [Nat.zero_add]; exact b1) (fun v' w' hown hgr => by
        have hB := grows_below hgr
        have hlw := hblk.lt
        rcases hown.2 with ⟨_, h0⟩ | ⟨g', c', cur, rfl, hge, hg', hrest⟩
        · omega
        · rw [Nat.zero_add] at hown ⊢
          have hR : Row w' w.heap.size e size (some ⟨g', 0, none⟩) m c' zs := by
            rw [List.nil_append] at hown
            exact hown
          exact hK g' c' w' (hR.mono (by omega)) hB (hR.lt _ rfl) (.inr hge))
    rw [if_pos hw] at hst
    exact hst
theorem step_append_copy {P : Program} {ops : Array Oper} {o : Oper} {a : Act} {w : World} {K : Act → World → Prop} {Q : Exit → Act → World → Prop} {E : Prop}
    (hg : o.guard = none) (s x : Operand) (t : TypeId) (hop : o.op = Op.call { callee := Callee.builtin Builtin.append, args := #[s, x], argTypes := #[t, t] })
    (e : TypeId) (i : TypeInfo) (z : Value) (size bytes : Nat) (h1 : P.underlying t = some (.slice e)) (h2 : P.info? e = some i) (h3 : i.zero = some z) (h4 : i.size = size) (h5 : i.bytes = bytes) (h6 : z.cells.size = size) (h7 : 0 < size)
    (g : Nat) (hs : a.eval s = .slice (some ⟨g, 0, none⟩) 0 0) (lo : Nat) (A : Option Addr) (m c : Nat) (zs : List Int) (hx : a.eval x = .slice A m c)
    (b1 : m ≤ 1000) (b2 : bytes ≤ 1000) (hblk : Blk w g e #[]) (hlo : lo ≤ g) (hS : Sl w size A m zs)
    (hK : ∀ g' c' w', Row w' lo e size (some ⟨g', 0, none⟩) m c' zs → Below w.heap.size w w' → g' < w'.heap.size → (g' = g ∨ w.heap.size ≤ g') → K (a.put o.dst (.slice (some ⟨g', 0, none⟩) m c')) w') :
    if Region.wanted o (yielded ops a.tmps) = true then Oper.wp P o a w K Q else E := by
  rw [if_pos (by simp [Region.wanted, hg])]
  exact wp_append_copy hg s x t hop e i z size bytes h1 h2 h3 h4 h5 h6 h7 g hs lo A m c zs hx (by unfold maxLen; omega) (by have := Nat.mul_le_mul b1 b2; omega) hblk hlo hS hK
theorem wpList_append_copy {P : Program} {ops : Array Oper} {rest : List Oper} {o : Oper} {a : Act} {w : World} {Q : Exit → Act → World → Prop}
    (hg : o.guard = none) (s x : Operand) (t : TypeId) (hop : o.op = Op.call { callee := Callee.builtin Builtin.append, args := #[s, x], argTypes := #[t, t] })
    (e : TypeId) (z : Value) (size bytes : Nat) (h1 : P.underlying t = some (.slice e)) (hinfo : (P.info? e).map (fun i => (i.zero, i.size, i.bytes)) = some (some z, size, bytes)) (h6 : z.cells.size = size) (h7 : 0 < size)
    (g : Nat) (hs : a.eval s = .slice (some ⟨g, 0, none⟩) 0 0) (lo : Nat) (A : Option Addr) (m c : Nat) (zs : List Int) (hx : a.eval x = .slice A m c)
    (b0 : m ≤ maxLen) (b1 : m * bytes ≤ 140737488355328) (hblk : Blk w g e #[]) (hlo : lo ≤ g) (hS : Sl w size A m zs)
    (hK : ∀ g' c' w', Row w' lo e size (some ⟨g', 0, none⟩) m c' zs → Below w.heap.size w w' → g' < w'.heap.size → (g' = g ∨ w.heap.size ≤ g') → wpList P ops Q rest (a.put o.dst (.slice (some ⟨g', 0, none⟩) m c')) w') :
    wpList P ops Q (o :: rest) a w := by
  obtain ⟨i, hi, hiz, his, hib⟩ : ∃ i, P.info? e = some i ∧ i.zero = some z ∧ i.size = size ∧ i.bytes = bytes := by
    cases hq : P.info? e with
    | none => rw [hq] at hinfo; simp at hinfo
    | some i =>
      rw [hq] at hinfo
      simp only [Option.map_some, Option.some.injEq, Prod.mk.injEq] at hinfo
      exact ⟨i, rfl, hinfo.1, hinfo.2.1, hinfo.2.2⟩
  exact wpList_plain hg fun _ hK2 => wp_append_copy hg s x t hop e i z size bytes h1 hi hiz his hib h6 h7 g hs lo A m c zs hx b0 b1 hblk hlo hS (fun g' c' w' r1 r2 r3 r4 => hK2 _ _ (hK g' c' w' r1 r2 r3 r4))
end Go.Proofs.YtbheflinchabgaaGreatDoor
namespace Go.Proofs.YtbheflinchabgaaGreatDoor
set_option linter.unusedSimpArgs false
set_option linter.unusedVariables false
attribute [local go_sem] n_lt2 n_lt3 n_lt4 n_le2 n_le3
open Go.RowKit
attribute [local go_sem] Ext.cell Ext.frozen
theorem info_Got6 : (Tryz.prog.info? 78).map (fun i => (i.zero, i.size, i.bytes)) = some (some (.agg #[.int .i64 0, .int .i64 0, .int .i64 0, .int .i64 0]), 4, 32) := by kernel_rfl
theorem info_Want6 : (Tryz.prog.info? 32).map (fun i => (i.zero, i.size, i.bytes)) = some (some (.agg #[.int .i64 0, .int .i64 0, .int .i64 0, .int .i64 0, .int .i64 0, .int .i64 0, .int .i64 0]), 7, 56) := by kernel_rfl
/-- What lies in a cell. -/
def cur (w : World) (a : Addr) : Value := (w.cell? a).getD undef
theorem cur_some {w : World} {a : Addr} {v : Value} (h : w.cell? a = some v) : w.cell? a = some (cur w a) := by unfold cur; rw [h]; rfl
/-- What the region of the copy keeps: the client's box g0 (its four cells) and that the result's block g1 can be written. -/
abbrev CopyS (w : World) (g0 g1 : Nat) (x0 x1 x2 x3 : Value) (w' : World) : Prop :=
  Below w.heap.size w w' ∧ w'.cell? ⟨g0, 0, none⟩ = some (x0) ∧ w'.cell? ⟨g0, 1, none⟩ = some (x1) ∧ w'.cell? ⟨g0, 2, none⟩ = some (x2) ∧ w'.cell? ⟨g0, 3, none⟩ = some (x3) ∧ g0 < w'.heap.size ∧ g1 < w'.heap.size ∧ w'.frozen? ⟨g1, 0, none⟩ = false ∧ w'.frozen? ⟨g1, 1, none⟩ = false ∧ w'.frozen? ⟨g1, 2, none⟩ = false ∧ w'.frozen? ⟨g1, 3, none⟩ = false ∧ w'.cell? ⟨g1, 0, none⟩ = some (cur w' ⟨g1, 0, none⟩) ∧ w'.cell? ⟨g1, 1, none⟩ = some (cur w' ⟨g1, 1, none⟩) ∧ w'.cell? ⟨g1, 2, none⟩ = some (cur w' ⟨g1, 2, none⟩) ∧ w'.cell? ⟨g1, 3, none⟩ = some (cur w' ⟨g1, 3, none⟩)
theorem CopyS.mk {w w' : World} {g0 g1 : Nat} {e f : TypeId} {x0 x1 x2 x3 y0 y1 y2 y3 : Value} (hb : Below w.heap.size w w') (K : Blk w' g0 e #[x0, x1, x2, x3]) (R : Blk w' g1 f #[y0, y1, y2, y3]) : CopyS w g0 g1 x0 x1 x2 x3 w' :=
  ⟨hb, K.cell 0, K.cell 1, K.cell 2, K.cell 3, K.lt, R.lt, R.frozen 0, R.frozen 1, R.frozen 2, R.frozen 3, cur_some (R.cell 0), cur_some (R.cell 1), cur_some (R.cell 2), cur_some (R.cell 3)⟩
theorem CopyS.b {w : World} {g0 g1 : Nat} {x0 x1 x2 x3 : Value} {w' : World} (h : CopyS w g0 g1 x0 x1 x2 x3 w') : Below w.heap.size w w' := h.1
theorem CopyS.below {w w' w5 : World} {g0 g1 : Nat} {x0 x1 x2 x3 : Value} (h : CopyS w g0 g1 x0 x1 x2 x3 w') (B : Below w'.heap.size w' w5) : CopyS w g0 g1 x0 x1 x2 x3 w5 := by
  obtain ⟨hb, c0, c1, c2, c3, l0, l1, f0, f1, f2, f3, d0, d1, d2, d3⟩ := h
  obtain ⟨hcb, hfb, _⟩ := bcell B
  exact ⟨bthen hb B, (B.cell l0).trans c0, (B.cell l0).trans c1, (B.cell l0).trans c2, (B.cell l0).trans c3, Nat.lt_of_lt_of_le l0 B.size, Nat.lt_of_lt_of_le l1 B.size, (hfb g1 0 l1).trans f0, (hfb g1 1 l1).trans f1, (hfb g1 2 l1).trans f2, (hfb g1 3 l1).trans f3, cur_some ((B.cell (p := ⟨g1, 0, none⟩) l1).trans d0), cur_some ((B.cell (p := ⟨g1, 1, none⟩) l1).trans d1), cur_some ((B.cell (p := ⟨g1, 2, none⟩) l1).trans d2), cur_some ((B.cell (p := ⟨g1, 3, none⟩) l1).trans d3)⟩
theorem set_cur {w : World} {g j k : Nat} {u : Value} (d : w.cell? ⟨g, j, none⟩ = some u) (v : Value) : (w.setCell ⟨g, k, none⟩ v).cell? ⟨g, j, none⟩ = some (cur (w.setCell ⟨g, k, none⟩ v) ⟨g, j, none⟩) := by
  by_cases hk : k = j
  · subst hk
    exact cur_some (World.cell?_setCell_same w _ v d)
  · exact cur_some ((World.cell?_setCell_other w ⟨g, k, none⟩ ⟨g, j, none⟩ v (by intro h; injection h with _ h2 _; exact hk h2)).trans d)
theorem CopyS.set {w w' : World} {g0 g1 : Nat} {x0 x1 x2 x3 : Value} (h : CopyS w g0 g1 x0 x1 x2 x3 w') (hg : w.heap.size ≤ g1) (hne : g1 ≠ g0) (k : Nat) (v : Value) : CopyS w g0 g1 x0 x1 x2 x3 (w'.setCell ⟨g1, k, none⟩ v) := by
  obtain ⟨hb, c0, c1, c2, c3, l0, l1, f0, f1, f2, f3, d0, d1, d2, d3⟩ := h
  exact ⟨hb.setCell hg v, (World.cell?_setCell_far _ _ _ _ hne).trans c0, (World.cell?_setCell_far _ _ _ _ hne).trans c1, (World.cell?_setCell_far _ _ _ _ hne).trans c2, (World.cell?_setCell_far _ _ _ _ hne).trans c3, by simpa using l0, by simpa using l1, by simpa using f0, by simpa using f1, by simpa using f2, by simpa using f3, set_cur d0 v, set_cur d1 v, set_cur d2 v, set_cur d3 v⟩
theorem CopyS.set4 {w w' : World} {x0 x1 x2 x3 : Value} (h : CopyS w w.heap.size (w.heap.size + 1) x0 x1 x2 x3 w') (y0 y1 y2 y3 : Value) : CopyS w w.heap.size (w.heap.size + 1) x0 x1 x2 x3 ((((w'.setCell ⟨w.heap.size + 1, 0, none⟩ y0).setCell ⟨w.heap.size + 1, 1, none⟩ y1).setCell ⟨w.heap.size + 1, 2, none⟩ y2).setCell ⟨w.heap.size + 1, 3, none⟩ y3) :=
  (((h.set (Nat.le_succ _) (Nat.succ_ne_self _) 0 y0).set (Nat.le_succ _) (Nat.succ_ne_self _) 1 y1).set (Nat.le_succ _) (Nat.succ_ne_self _) 2 y2).set (Nat.le_succ _) (Nat.succ_ne_self _) 3 y3
theorem CopyS.below2 {w w' w5 : World} {g0 g1 : Nat} {x0 x1 x2 x3 : Value} (B : Below w'.heap.size w' w5) (h : CopyS w g0 g1 x0 x1 x2 x3 w') : CopyS w g0 g1 x0 x1 x2 x3 w5 := h.below B
theorem Blk.below2 {w w' : World} {g : Nat} {e : TypeId} {cs : Array Value} (hb : Below w.heap.size w w') (h : Blk w g e cs) : Blk w' g e cs := h.below hb
end Go.Proofs.YtbheflinchabgaaGreatDoor
namespace Go.Proofs.YtbheflinchabgaaGreatDoor
set_option linter.unusedSimpArgs false
set_option linter.unusedVariables false
attribute [local go_sem] n_lt2 n_lt3 n_lt4 n_le2 n_le3
open Go.RowKit
attribute [local go_sem] Ext.cell Ext.frozen
set_option maxRecDepth 100000 in
set_option maxHeartbeats 4000000 in
theorem copyClient_any (A : Option Addr) (n c : Nat) (B : Option Addr) (m d : Nat) (i0 t0 : Int) (zp zq : List Int) (w : World) (hP : Sl w 7 A n zp) (hQ : Sl w 4 B m zq) (hn : n ≤ 1000) (hm : m ≤ 1000) :
    Calls Tryz.prog 42 #[.agg #[.int .i64 i0, .slice A n c, .slice B m d, .int .i64 t0]] w fun e w' => ∃ A' c' B' d', e = .returned (.agg #[.int .i64 i0, .slice (some A') n c', .slice (some B') m d', .int .i64 t0]) ∧ Row w' w.heap.size 32 7 (some A') n c' zp ∧ Row w' w.heap.size 78 4 (some B') m d' zq ∧ A'.block ≠ B'.block ∧ Below w.heap.size w w' := by
  have HP := Lib.hid (fun (w' : World) (hB : Below w.heap.size w w') => hP.below hB)
  have HQ := Lib.hid (fun (w' : World) (hB : Below w.heap.size w w') => hQ.below hB)
  clear hP hQ
  obtain ⟨ia, hia, hza, hsa, hya⟩ := info_parts info_Want6
  obtain ⟨ib, hib, hzb, hsb, hyb⟩ := info_parts info_Got6
  go_enter Tryz.func42, Tryz.ntmps42
  go_wp2
  obtain ⟨v, hv⟩ : ∃ v : World, v = ((w.alloc (.cells #[.int .i64 i0, .slice A n c, .slice B m d, .int .i64 t0] 35)).alloc (.cells #[.int .i64 0, .slice none 0 0, .slice none 0 0, .int .i64 0] 35)) := ⟨_, rfl⟩
  rw [← hv]
  have hS0 : CopyS w w.heap.size (w.heap.size + 1) (.int .i64 i0) (.slice A n c) (.slice B m d) (.int .i64 t0) v := by
    rw [hv]
    exact CopyS.mk (e := 35) (f := 35) (by (repeat' (first | (with_reducible exact Below.refl _ _) | (with_reducible assumption) | (with_reducible refine Below.alloc ?_ ?_ _) | (with_reducible refine Below.drew ?_) | (with_reducible refine Below.setCell ?_ ?_ _) | (with_reducible refine bstep (by assumption) ?_ ?_) | (with_reducible exact Nat.le_refl _) | omega | (simp [*]; done) | (simp [*]; omega)))) ((Blk.new_at _ _ _ _ (by simp)).alloc _) (Blk.new_at _ _ _ _ (by simp))
  have HRB := Lib.hid (show Blk v (w.heap.size + 1) 35 #[.int .i64 0, .slice none 0 0, .slice none 0 0, .int .i64 0] by rw [hv]; exact Blk.new_at _ _ _ _ (by simp))
  have HV := Lib.hid (show v.heap.size = w.heap.size + 2 by rw [hv]; simp)
  clear hv
  have Hb0 := Lib.hid hS0.b
  go_region_held_law (fun w' => Below w.heap.size w w' ∧ w'.cell? ⟨w.heap.size, 0, none⟩ = some (.int .i64 i0) ∧ w'.cell? ⟨w.heap.size, 1, none⟩ = some (.slice A n c) ∧ w'.cell? ⟨w.heap.size, 2, none⟩ = some (.slice B m d) ∧ w'.cell? ⟨w.heap.size, 3, none⟩ = some (.int .i64 t0) ∧ w.heap.size < w'.heap.size ∧ w.heap.size + 1 < w'.heap.size ∧ w'.frozen? ⟨w.heap.size + 1, 0, none⟩ = false ∧ w'.frozen? ⟨w.heap.size + 1, 1, none⟩ = false ∧ w'.frozen? ⟨w.heap.size + 1, 2, none⟩ = false ∧ w'.frozen? ⟨w.heap.size + 1, 3, none⟩ = false ∧ w'.cell? ⟨w.heap.size + 1, 0, none⟩ = some (cur w' ⟨w.heap.size + 1, 0, none⟩) ∧ w'.cell? ⟨w.heap.size + 1, 1, none⟩ = some (cur w' ⟨w.heap.size + 1, 1, none⟩) ∧ w'.cell? ⟨w.heap.size + 1, 2, none⟩ = some (cur w' ⟨w.heap.size + 1, 2, none⟩) ∧ w'.cell? ⟨w.heap.size + 1, 3, none⟩ = some (cur w' ⟨w.heap.size + 1, 3, none⟩))
    (first | exact hS0 | exact CopyS.below (by assumption) (Below.drew (Below.refl _ _)) | exact CopyS.below (by assumption) (Below.alloc (Below.refl _ _) (Nat.le_refl _) _) | exact CopyS.below2 (by assumption) (by assumption) | exact CopyS.set4 (by assumption) _ _ _ _ | assumption)
    (first
      | (refine step_append_copy rfl _ _ 27 rfl 32 ia _ 7 56 Tryz.underlying27 hia hza hsa hya (by simp [Value.cells]) (by decide) _ rfl w.heap.size A n c zp rfl hn (by decide) (by first | exact Blk.drew (Blk.new_at _ _ _ _ (by simp)) | exact Blk.drew ((Blk.new_at _ _ _ _ (by simp)).alloc _)) (by have h5 := HV.out; (try simp); omega) (HP.out _ (@CopyS.b w w.heap.size (w.heap.size + 1) (.int .i64 i0) (.slice A n c) (.slice B m d) (.int .i64 t0) _ (by assumption))) ?_; intro eA cA wA RA bA lA oA)
      | (refine step_append_copy rfl _ _ 33 rfl 78 ib _ 4 32 Tryz.underlying33 hib hzb hsb hyb (by simp [Value.cells]) (by decide) _ rfl w.heap.size B m d zq rfl hm (by decide) (by first | exact Blk.new_at _ _ _ _ (by simp) | exact Blk.below2 (by assumption) (Blk.drew (Blk.new_at _ _ _ _ (by simp))) | exact Blk.below2 (by assumption) (Blk.drew ((Blk.new_at _ _ _ _ (by simp)).alloc _))) (by have h5 := HV.out; have h6 := Below.size (by assumption : Below _ _ wA); (try simp); (try simp at h6); omega) (HQ.out _ (@CopyS.b w w.heap.size (w.heap.size + 1) (.int .i64 i0) (.slice A n c) (.slice B m d) (.int .i64 t0) _ (by assumption))) ?_; intro eB cB wB RB bB lB oB))
  all_goals
    rename_i hHx
    clear hHx hS0
    have zA := bA.size
    have zB := bB.size
    have h5 := HV.out
    have bA2 : Below v.heap.size v wA := by
      first
        | exact bthen (((Below.refl v.heap.size v).alloc (Nat.le_refl _) _).drew) bA
        | exact bthen ((((Below.refl v.heap.size v).alloc (Nat.le_refl _) _).alloc (by simp) _).drew) bA
    have bAB : Below wA.heap.size wA wB := by
      first
        | exact bB
        | exact bthen ((Below.refl wA.heap.size wA).alloc (Nat.le_refl _) _) bB
    have bB2 := bthen bA2 bAB
    have nA : eA ≠ w.heap.size + 1 := by (try simp at oA); (try simp at zA); omega
    have nB : eB ≠ w.heap.size + 1 := by (try simp at oB); (try simp at zA); (try simp at zB); omega
    have hne : eA ≠ eB := by (try simp at oA); (try simp at oB); (try simp at zA); (try simp at zB); omega
    have KB := HRB.out.below bB2
    have RA2 := RA.below bAB
    have hb := bthen Hb0.out bB2
    have KF := Lib.hid ((((KB.set_ 0 (.int .i64 i0)).set_ 1 (.slice (some ⟨eA, 0, none⟩) n cA)).set_ 2 (.slice (some ⟨eB, 0, none⟩) m cB)).set_ 3 (.int .i64 t0))
    have FA := Lib.hid ((((RA2.far (p := ⟨w.heap.size + 1, 0, none⟩) (fun a ha => by injection ha with ha; subst ha; exact nA) (.int .i64 i0)).far (p := ⟨w.heap.size + 1, 1, none⟩) (fun a ha => by injection ha with ha; subst ha; exact nA) (.slice (some ⟨eA, 0, none⟩) n cA)).far (p := ⟨w.heap.size + 1, 2, none⟩) (fun a ha => by injection ha with ha; subst ha; exact nA) (.slice (some ⟨eB, 0, none⟩) m cB)).far (p := ⟨w.heap.size + 1, 3, none⟩) (fun a ha => by injection ha with ha; subst ha; exact nA) (.int .i64 t0))
    have FB := Lib.hid ((((RB.far (p := ⟨w.heap.size + 1, 0, none⟩) (fun a ha => by injection ha with ha; subst ha; exact nB) (.int .i64 i0)).far (p := ⟨w.heap.size + 1, 1, none⟩) (fun a ha => by injection ha with ha; subst ha; exact nB) (.slice (some ⟨eA, 0, none⟩) n cA)).far (p := ⟨w.heap.size + 1, 2, none⟩) (fun a ha => by injection ha with ha; subst ha; exact nB) (.slice (some ⟨eB, 0, none⟩) m cB)).far (p := ⟨w.heap.size + 1, 3, none⟩) (fun a ha => by injection ha with ha; subst ha; exact nB) (.int .i64 t0))
    have FF := Lib.hid ((((hb.setCell (p := ⟨w.heap.size + 1, 0, none⟩) (Nat.le_succ _) (.int .i64 i0)).setCell (p := ⟨w.heap.size + 1, 1, none⟩) (Nat.le_succ _) (.slice (some ⟨eA, 0, none⟩) n cA)).setCell (p := ⟨w.heap.size + 1, 2, none⟩) (Nat.le_succ _) (.slice (some ⟨eB, 0, none⟩) m cB)).setCell (p := ⟨w.heap.size + 1, 3, none⟩) (Nat.le_succ _) (.int .i64 t0))
    clear zA zB h5 bA bB bA2 bAB bB2 RA RB RA2 hb oA oB lA lB KB nA nB
    have q0 := KF.out.cell 0
    have q1 := KF.out.cell 1
    have q2 := KF.out.cell 2
    have q3 := KF.out.cell 3
    go_wp2
    refine bodyPost_ret (v := .agg #[.int .i64 i0, .slice (some ⟨eA, 0, none⟩) n cA, .slice (some ⟨eB, 0, none⟩) m cB, .int .i64 t0]) (by simp [results, Tryz.results42, go_sem, *]) rfl ⟨_, _, _, _, rfl, FA.out, FB.out, hne, FF.out⟩
end Go.Proofs.YtbheflinchabgaaGreatDoor
namespace Go.Proofs.YtbheflinchabgaaGreatDoor
set_option linter.unusedSimpArgs false
set_option linter.unusedVariables false
attribute [local go_sem] n_lt2 n_lt3 n_lt4 n_le2 n_le3
open Go.RowKit
attribute [local go_sem] Ext.cell Ext.frozen
end Go.Proofs.YtbheflinchabgaaGreatDoor
namespace Go.Proofs.YtbheflinchabgaaGreatDoor
set_option linter.unusedSimpArgs false
set_option linter.unusedVariables false
attribute [local go_sem] n_lt2 n_lt3 n_lt4 n_le2 n_le3
open Go.RowKit
def doneB (i0 : Int) (wl : List Wt) (gl : List Gt) (t0 : Int) : Bool := clientB i0 wl gl t0 && decide (gl.length = wl.length)
def pendW (wl : List Wt) (gl : List Gt) : Wt := if gl.length = wl.length then default else wl.getD gl.length default
def pendS (wl : List Wt) (gl : List Gt) : Int := if gl.length = wl.length then 0 else (gl.length : Int) + 1
theorem clientB_le {i0 t0 : Int} {wl : List Wt} {gl : List Gt} (h : clientB i0 wl gl t0 = true) : wl.length ≤ 12 ∧ gl.length ≤ wl.length := by
  unfold clientB at h
  simp only [Bool.and_eq_true, decide_eq_true_eq] at h
  exact ⟨h.2.1, h.2.2.2.1⟩
attribute [local go_sem] Ext.cell Ext.frozen
set_option maxRecDepth 100000 in
set_option maxHeartbeats 1000000 in
theorem allDone_any (A : Option Addr) (n c : Nat) (B : Option Addr) (m d : Nat) (i0 t0 : Int) (wl : List Wt) (gl : List Gt) (w : World) (hP : Sl w 7 A n (WT wl)) (hQ : Sl w 4 B m (GT gl)) (hl : wl.length = n) (hr : gl.length = m) (hn : n ≤ maxLen) (hm : m ≤ maxLen) :
    Calls Tryz.prog 19 #[.agg #[.int .i64 i0, .slice A n c, .slice B m d, .int .i64 t0]] w fun e' w' => e' = .returned (.bool (doneB i0 wl gl t0)) ∧ Below w.heap.size w w' := by
  have hL := Lib.hid hl
  have hR := Lib.hid hr
  have HP := Lib.hid hP
  have HQ := Lib.hid hQ
  clear hP hQ hl hr
  go_enter Tryz.func19, Tryz.ntmps19
  go_wp2_with fail
  refine calls_named ?_
  rintro v0 hv0
  have f0 : Below w.heap.size w v0 := by rw [hv0]; (repeat' (first | (with_reducible exact Below.refl _ _) | (with_reducible assumption) | (with_reducible refine Below.alloc ?_ ?_ _) | (with_reducible refine Below.drew ?_) | (with_reducible refine Below.setCell ?_ ?_ _) | (with_reducible refine bstep (by assumption) ?_ ?_) | (with_reducible exact Nat.le_refl _) | omega | (simp [*]; done) | (simp [*]; omega)))
  have HK := Lib.hid (show Blk v0 w.heap.size 35 #[.int .i64 i0, .slice A n c, .slice B m d, .int .i64 t0] by rw [hv0]; exact Blk.new _ _ _)
  clear hv0
  have c1 := clientOk_any A n c B m d i0 t0 wl gl v0 (HP.out.below f0) (HQ.out.below f0) hL.out hR.out hn hm
  unfold maxLen at hn hm
  cases hq : clientB i0 wl gl t0 with
  | false =>
    rw [hq] at c1
    have hv := Lib.hid (show doneB i0 wl gl t0 = false by unfold doneB; rw [hq]; rfl)
    clear hq
    refine c1.mono ?_
    rintro e v1 ⟨rfl, b1⟩
    go_wp21
    go_ret
    exact ⟨ret_bool hv.out.symm, bthen f0 b1⟩
  | true =>
    rw [hq] at c1
    have hv := Lib.hid (show doneB i0 wl gl t0 = decide (m = n) by unfold doneB; rw [hq, hL.out, hR.out]; rfl)
    clear hq
    refine c1.mono ?_
    rintro e v1 ⟨rfl, b1⟩
    have HK1 := Lib.hid (HK.out.below b1)
    clear HK
    have lt_c := HK1.out.lt
    obtain ⟨r_c0, r_c1, r_c2, r_c3⟩ := bc4 HK1.out
    by_cases hmn : m = n
    · subst hmn
      go_wp21
      go_ret
      exact ⟨ret_bool (by rw [hv.out]; simp), bthen f0 b1⟩
    · have hmn' : ¬ (m : Int) = (n : Int) := by omega
      have hmn2 : ((m : Int) == (n : Int)) = false := by simpa using hmn'
      go_wp21
      go_ret
      exact ⟨ret_bool (by rw [hv.out]; simp [hmn]), bthen f0 b1⟩
set_option maxRecDepth 100000 in
set_option maxHeartbeats 2000000 in
theorem pending_any (A : Option Addr) (n c : Nat) (B : Option Addr) (m d : Nat) (i0 t0 : Int) (wl : List Wt) (gl : List Gt) (w : World) (hP : Sl w 7 A n (WT wl)) (hQ : Sl w 4 B m (GT gl)) (hl : wl.length = n) (hr : gl.length = m) (hn : n ≤ maxLen) (hm : m ≤ maxLen) (hmn0 : m ≤ n) :
    Calls Tryz.prog 22 #[.agg #[.int .i64 i0, .slice A n c, .slice B m d, .int .i64 t0]] w fun e' w' => e' = .returned (.tuple #[.agg #[.int .i64 (pendW wl gl).k, .int .i64 (pendW wl gl).o, .int .i64 (pendW wl gl).a, .int .i64 (pendW wl gl).b, .int .i64 (pendW wl gl).c, .int .i64 (pendW wl gl).d, .int .i64 (pendW wl gl).y], .int .i64 (pendS wl gl)]) ∧ Below w.heap.size w w' := by
  have hL := Lib.hid hl
  have hR := Lib.hid hr
  have HP := Lib.hid hP
  have HQ := Lib.hid hQ
  clear hP hQ hl hr
  unfold maxLen at hn hm
  by_cases hmn : m = n
  · have h1 := Lib.hid (show pendW wl gl = default by unfold pendW; rw [if_pos (by rw [hL.out, hR.out]; exact hmn)])
    have h2 := Lib.hid (show pendS wl gl = 0 by unfold pendS; rw [if_pos (by rw [hL.out, hR.out]; exact hmn)])
    subst hmn
    go_enter Tryz.func22, Tryz.ntmps22
    go_wp21
    refine bodyPost_ret (v := .tuple #[.agg #[.int .i64 0, .int .i64 0, .int .i64 0, .int .i64 0, .int .i64 0, .int .i64 0, .int .i64 0], .int .i64 0]) (by simp [results, Tryz.results22, go_sem, *]) rfl ⟨by rw [h1.out, h2.out]; rfl, by (repeat' (first | (with_reducible exact Below.refl _ _) | (with_reducible assumption) | (with_reducible refine Below.alloc ?_ ?_ _) | (with_reducible refine Below.drew ?_) | (with_reducible refine Below.setCell ?_ ?_ _) | (with_reducible refine bstep (by assumption) ?_ ?_) | (with_reducible exact Nat.le_refl _) | omega | (simp [*]; done) | (simp [*]; omega)))⟩
  · have hmn' : ¬ (m : Int) = (n : Int) := by omega
    have hmn2 : ((m : Int) == (n : Int)) = false := by simpa using hmn'
    have hlt : (m : Int) < (n : Int) := by omega

    have hwk : IntKind.i64.wrap ((m : Int) + 1) = (m : Int) + 1 := by simp [IntKind.wrap, IntKind.bits, IntKind.signed]; omega
    have h2 := Lib.hid (show pendS wl gl = (m : Int) + 1 by unfold pendS; rw [if_neg (by rw [hL.out, hR.out]; exact hmn), hR.out])
    have h1 := Lib.hid (show pendW wl gl = wl.getD m default by unfold pendW; rw [if_neg (by rw [hL.out, hR.out]; exact hmn), hR.out])
    obtain ⟨bw, ow, rfl, hbw, hcw⟩ := sl_wants HP.out (by omega)
    obtain ⟨g0, g1, g2, g3, g4, g5, g6⟩ := hcw m (by omega)
    clear hcw
    generalize wl.getD m default = p at g0 g1 g2 g3 g4 g5 g6 h1
    obtain ⟨k, o, a, b, c0, d0, y⟩ := p
    simp only at g0 g1 g2 g3 g4 g5 g6
    go_enter Tryz.func22, Tryz.ntmps22
    go_wp2
    go_region
    go_wp21
    refine bodyPost_ret (v := .tuple #[.agg #[.int .i64 k, .int .i64 o, .int .i64 a, .int .i64 b, .int .i64 c0, .int .i64 d0, .int .i64 y], .int .i64 ((m : Int) + 1)]) (by simp [results, Tryz.results22, go_sem, *]) rfl ⟨by rw [h1.out, h2.out], by (repeat' (first | (with_reducible exact Below.refl _ _) | (with_reducible assumption) | (with_reducible refine Below.alloc ?_ ?_ _) | (with_reducible refine Below.drew ?_) | (with_reducible refine Below.setCell ?_ ?_ _) | (with_reducible refine bstep (by assumption) ?_ ?_) | (with_reducible exact Nat.le_refl _) | omega | (simp [*]; done) | (simp [*]; omega)))⟩
end Go.Proofs.YtbheflinchabgaaGreatDoor
namespace Go.Proofs.YtbheflinchabgaaGreatDoor
set_option linter.unusedSimpArgs false
set_option linter.unusedVariables false
attribute [local go_sem] n_lt2 n_lt3 n_lt4 n_le2 n_le3
open Go.RowKit
attribute [local go_sem] Ext.cell Ext.frozen


end Go.Proofs.YtbheflinchabgaaGreatDoor
namespace Go.Proofs.YtbheflinchabgaaGreatDoor
set_option linter.unusedSimpArgs false
set_option linter.unusedVariables false
attribute [local go_sem] n_lt2 n_lt3 n_lt4 n_le2 n_le3
open Go.RowKit
attribute [local go_sem] Ext.cell Ext.frozen


end Go.Proofs.YtbheflinchabgaaGreatDoor
namespace Go.Proofs.YtbheflinchabgaaGreatDoor
set_option linter.unusedSimpArgs false
set_option linter.unusedVariables false
attribute [local go_sem] n_lt2 n_lt3 n_lt4 n_le2 n_le3
open Go.RowKit
attribute [local go_sem] Ext.cell Ext.frozen

/-- What a call that hands back a Client leaves: its two slices are rows of its own. -/
def RetClient (w : World) (i0 t0 : Int) (n : Nat) (zp : List Int) (m : Nat) (zq : List Int) (en : Ending) (w' : World) : Prop :=
  ∃ A c B d, en = .returned (.agg #[.int .i64 i0, .slice A n c, .slice B m d, .int .i64 t0]) ∧ Row w' w.heap.size 32 7 A n c zp ∧ Row w' w.heap.size 78 4 B m d zq ∧ (∀ a b, A = some a → B = some b → a.block ≠ b.block) ∧ Below w.heap.size w w'
end Go.Proofs.YtbheflinchabgaaGreatDoor
namespace Go.Proofs.YtbheflinchabgaaGreatDoor
set_option linter.unusedSimpArgs false
set_option linter.unusedVariables false
attribute [local go_sem] n_lt2 n_lt3 n_lt4 n_le2 n_le3
open Go.RowKit
attribute [local go_sem] Ext.cell Ext.frozen
def newB (i0 : Int) (wl : List Wt) : Bool := clientB i0 wl [] 0
def newI (i0 : Int) (wl : List Wt) : Int := if newB i0 wl = true then i0 else 0
def newL (i0 : Int) (wl : List Wt) : List Wt := if newB i0 wl = true then wl else []
theorem retClient_nil {w w' : World} {E F : TypeId} (h : Below w.heap.size w w') (hE : E = 32) (hF : F = 78) : RetClient w 0 0 0 (WT []) 0 [] (.returned (.agg #[.int .i64 0, .slice none 0 0, .slice none 0 0, .int .i64 0])) w' :=
  ⟨none, 0, none, 0, rfl, Row.nil _ _ _ _, Row.nil _ _ _ _, (fun a b ha => by cases ha), h⟩
set_option maxRecDepth 100000 in
set_option maxHeartbeats 4000000 in
theorem newClient_any (A : Option Addr) (n c : Nat) (i0 : Int) (wl : List Wt) (w : World) (hP : Sl w 7 A n (WT wl)) (hl : wl.length = n) (hn : n ≤ 1048576) :
    Calls Tryz.prog 7 #[.int .i64 i0, .slice A n c] w (RetClient w (newI i0 wl) 0 (newL i0 wl).length (WT (newL i0 wl)) 0 []) := by
  have HP := Lib.hid (fun (w' : World) (hB : Below w.heap.size w w') => hP.below hB)
  have c1 := fun (X : Option Addr) (d : Nat) (v : World) (hv : Sl v 7 X n (WT wl)) => clientOk_any X n d none 0 0 i0 0 wl [] v hv (Sl.nil v 4 none) hl rfl (by unfold maxLen; omega) (Nat.zero_le _)
  clear hP
  subst hl
  obtain ⟨b, hb⟩ : ∃ b, newB i0 wl = b := ⟨_, rfl⟩
  have HB : Hid (clientB i0 wl [] 0 = b) := hb
  have C1 : Hid (∀ (X : Option Addr) (d : Nat) (v : World), Sl v 7 X wl.length (WT wl) → Calls Tryz.prog 20 #[.agg #[.int .i64 i0, .slice X wl.length d, .slice none 0 0, .int .i64 0]] v fun e' w' => e' = .returned (.bool b) ∧ Below v.heap.size v w') := by
    show ∀ (X : Option Addr) (d : Nat) (v : World), _
    intro X d v hv
    have := c1 X d v hv
    rw [HB.out] at this
    exact this
  have hres : ∀ (e : Ending) (w' : World), (b = true → RetClient w i0 0 wl.length (WT wl) 0 [] e w') → (b = false → RetClient w 0 0 0 (WT []) 0 [] e w') → RetClient w (newI i0 wl) 0 (newL i0 wl).length (WT (newL i0 wl)) 0 [] e w' := by
    intro e w' h1 h2
    unfold newI newL
    cases b with
    | true => rw [if_pos hb, if_pos hb]; exact h1 rfl
    | false => rw [if_neg (by rw [hb]; decide), if_neg (by rw [hb]; decide)]; exact h2 rfl
  have HR := Lib.hid hres
  clear hres c1 HB hb
  go_enter Tryz.func7, Tryz.ntmps7
  go_wp2_with (at_builtin; refine wpList_append_copy rfl _ _ 27 rfl 32 (.agg #[.int .i64 0, .int .i64 0, .int .i64 0, .int .i64 0, .int .i64 0, .int .i64 0, .int .i64 0]) 7 56 Tryz.underlying27 info_Want6 (by simp [Value.cells]) (by decide) (w.heap.size + 1) rfl (w.heap.size + 1) A wl.length c (WT wl) rfl (by unfold maxLen; omega) (by omega) (Blk.new_at _ _ _ _ (by simp)) (Nat.le_refl _) (HP.out _ (by (repeat' (first | (with_reducible exact Below.refl _ _) | (with_reducible assumption) | (with_reducible refine Below.alloc ?_ ?_ _) | (with_reducible refine Below.drew ?_) | (with_reducible refine Below.setCell ?_ ?_ _) | (with_reducible refine bstep (by assumption) ?_ ?_) | (with_reducible exact Nat.le_refl _) | omega | (simp [*]; done) | (simp [*]; omega))))) ?_; intro gA cA wA RA bA lA oA)
  obtain ⟨v, hv⟩ : ∃ v : World, v = wA.alloc (.cells #[.int .i64 i0, .slice (some ⟨gA, 0, none⟩) wl.length cA, .slice none 0 0, .int .i64 0] 35) := ⟨_, rfl⟩
  rw [← hv]
  have R1 : Blk wA w.heap.size 35 #[.int .i64 0, .slice none 0 0, .slice none 0 0, .int .i64 0] := Blk.below2 bA ((Blk.new_at _ _ _ _ rfl).alloc _)
  have b0 : Below w.heap.size w wA := bthen ((Below.refl _ _).alloc (Nat.le_refl _) _ |>.alloc (by simp) _) bA
  have R2 : Blk v w.heap.size 35 #[.int .i64 0, .slice none 0 0, .slice none 0 0, .int .i64 0] := by rw [hv]; exact R1.alloc _
  have K2 : Blk v wA.heap.size 35 #[.int .i64 i0, .slice (some ⟨gA, 0, none⟩) wl.length cA, .slice none 0 0, .int .i64 0] := by rw [hv]; exact Blk.new_at _ _ _ _ rfl
  have A2 : Row v (w.heap.size + 1) 32 7 (some ⟨gA, 0, none⟩) wl.length cA (WT wl) := by rw [hv]; exact RA.alloc _
  have b2 : Below w.heap.size w v := by rw [hv]; exact b0.alloc b0.size _
  have gne : gA ≠ w.heap.size := by have := A2.ge _ rfl; simp at this; omega
  have kne : wA.heap.size ≠ w.heap.size := by have := R1.lt; omega
  clear hv R1 b0 bA lA oA RA
  refine (C1.out _ _ v A2.sl).mono ?_
  rintro e w1 ⟨rfl, b1⟩
  have R3 := R2.below b1
  have K3 := K2.below b1
  have A3 := A2.below b1
  have f1 := bthen b2 b1
  clear R2 K2 A2 b2 b1
  have q0 := R3.cell 0
  have q1 := R3.cell 1
  have q2 := R3.cell 2
  have q3 := R3.cell 3
  obtain ⟨y0, y1, y2, y3⟩ := bf4 R3
  have l2 := R3.lt
  cases b with
  | false =>
    go_wp2
    refine bodyPost_ret (v := .agg #[.int .i64 0, .slice none 0 0, .slice none 0 0, .int .i64 0]) (by simp [results, Tryz.results7, go_sem, *]) rfl (HR.out _ _ (fun h => by cases h) (fun _ => retClient_nil (E := 32) (F := 78) ?_ rfl rfl))
    exact (((f1.setCell (p := ⟨w.heap.size, 0, none⟩) (Nat.le_refl _) _).setCell (p := ⟨w.heap.size, 1, none⟩) (Nat.le_refl _) _).setCell (p := ⟨w.heap.size, 2, none⟩) (Nat.le_refl _) _).setCell (p := ⟨w.heap.size, 3, none⟩) (Nat.le_refl _) _
  | true =>
    have k0 := K3.cell 0
    have k1 := K3.cell 1
    have k2 := K3.cell 2
    have k3 := K3.cell 3
    have kl := K3.lt
    have RP := A3.mono (Nat.le_succ w.heap.size)
    go_wp2
    refine bodyPost_ret (v := .agg #[.int .i64 i0, .slice (some ⟨gA, 0, none⟩) wl.length cA, .slice none 0 0, .int .i64 0]) (by simp [results, Tryz.results7, go_sem, *]) rfl (HR.out _ _ (fun _ => ⟨_, _, _, _, rfl, ?_, Row.nil _ _ _ _, (fun a b _ hb => by cases hb), ?_⟩) (fun h => by cases h))
    · exact (((RP.far (p := ⟨w.heap.size, 0, none⟩) (fun a ha => by injection ha with ha; subst ha; exact gne) _).far (p := ⟨w.heap.size, 1, none⟩) (fun a ha => by injection ha with ha; subst ha; exact gne) _).far (p := ⟨w.heap.size, 2, none⟩) (fun a ha => by injection ha with ha; subst ha; exact gne) _).far (p := ⟨w.heap.size, 3, none⟩) (fun a ha => by injection ha with ha; subst ha; exact gne) _
    · exact (((f1.setCell (p := ⟨w.heap.size, 0, none⟩) (Nat.le_refl _) _).setCell (p := ⟨w.heap.size, 1, none⟩) (Nat.le_refl _) _).setCell (p := ⟨w.heap.size, 2, none⟩) (Nat.le_refl _) _).setCell (p := ⟨w.heap.size, 3, none⟩) (Nat.le_refl _) _
end Go.Proofs.YtbheflinchabgaaGreatDoor
namespace Go.Proofs.YtbheflinchabgaaGreatDoor
set_option linter.unusedSimpArgs false
set_option linter.unusedVariables false
attribute [local go_sem] n_lt2 n_lt3 n_lt4 n_le2 n_le3
open Go.RowKit
attribute [local go_sem] Ext.cell Ext.frozen


end Go.Proofs.YtbheflinchabgaaGreatDoor
namespace Go.Proofs.YtbheflinchabgaaGreatDoor
set_option linter.unusedSimpArgs false
set_option linter.unusedVariables false
attribute [local go_sem] n_lt2 n_lt3 n_lt4 n_le2 n_le3
open Go.RowKit

theorem wpList_append_row {P : Program} {ops : Array Oper} {rest : List Oper} {o : Oper} {a : Act} {w : World} {Q : Exit → Act → World → Prop} (hgd : o.guard = none) (s x : Operand) (t : TypeId)
    (ho : o.op = .call { callee := .builtin .append, args := #[s, x], argTypes := #[t, t] })
    (e : TypeId) (z : Value) (size bytes : Nat) (ht : P.underlying t = some (.slice e)) (hinfo : (P.info? e).map (fun i => (i.zero, i.size, i.bytes)) = some (some z, size, bytes)) (hzs : z.cells.size = size) (hsz : 0 < size)
    (lo : Nat) (A : Option Addr) (n cap : Nat) (xs : List Int) (hs : a.eval s = .slice A n cap) (hR : Row w lo e size A n cap xs)
    (ad : Addr) (m c : Nat) (news : List Int) (hx : a.eval x = .slice (some ad) m c) (hl : news.length = m * size) (hnews : ∀ j u, (ints news)[j]? = some u → w.cell? (ad.add j) = some u)
    (h63 : n + m ≤ maxLen) (hbytes : (n + m) * bytes ≤ 140737488355328) (hlo : lo ≤ w.heap.size)
    (h : ∀ A' cap' w', Row w' lo e size A' (n + m) cap' (xs ++ news) → Below lo w w' → wpList P ops Q rest (a.put o.dst (.slice A' (n + m) cap')) w') :
    wpList P ops Q (o :: rest) a w := by
  obtain ⟨i, hi, hiz, his, hib⟩ : ∃ i, P.info? e = some i ∧ i.zero = some z ∧ i.size = size ∧ i.bytes = bytes := by
    cases hq : P.info? e with
    | none => rw [hq] at hinfo; simp at hinfo
    | some i =>
      rw [hq] at hinfo
      simp only [Option.map_some, Option.some.injEq, Prod.mk.injEq] at hinfo
      exact ⟨i, rfl, hinfo.1, hinfo.2.1, hinfo.2.2⟩
  refine wpList_append_own_at _ hgd s x t ho lo e i z size bytes ht hi hiz his hib hzs hsz _ n (ints xs) hs hR ad m c (ints news) hx (by rw [ints_length]; exact hl) hnews (ints_oneCell' news) h63 hbytes hlo ?_
  intro v' w' hown hg _ _
  rw [← ints_append] at hown
  have hb : Below lo w w' := (Below.refl lo w).grown hg hlo (fun k hk => by
    cases A with
    | none => simp [Value.ownBlock] at hk
    | some a0 =>
      simp only [Value.ownBlock, Option.some.injEq] at hk
      subst hk
      exact hR.ge a0 rfl)
  rcases hown.2 with ⟨rfl, h0⟩ | ⟨g, c', cur, rfl, _⟩
  · have hn0 : n + m = 0 := h0
    rw [hn0] at h hown
    exact h none 0 w' hown hb
  · exact h _ _ w' hown hb
end Go.Proofs.YtbheflinchabgaaGreatDoor
namespace Go.Proofs.YtbheflinchabgaaGreatDoor
set_option linter.unusedSimpArgs false
set_option linter.unusedVariables false
attribute [local go_sem] n_lt2 n_lt3 n_lt4 n_le2 n_le3
open Go.RowKit
theorem cell_four_at (w : World) (x0 x1 x2 x3 : Value) (t : TypeId) (g : Nat) (hg : g = w.heap.size) : ∀ j u, [x0, x1, x2, x3][j]? = some u → (w.alloc (.cells #[x0, x1, x2, x3] t)).cell? ((⟨g, 0, none⟩ : Addr).add j) = some u := by
  intro j u hj
  subst hg
  match j, hj with
  | 0, hj => simp at hj; subst hj; simp [Addr.add]
  | 1, hj => simp at hj; subst hj; simp [Addr.add]
  | 2, hj => simp at hj; subst hj; simp [Addr.add]
  | 3, hj => simp at hj; subst hj; simp [Addr.add]
attribute [local go_sem] Ext.cell Ext.frozen
end Go.Proofs.YtbheflinchabgaaGreatDoor
namespace Go.Proofs.YtbheflinchabgaaGreatDoor
set_option linter.unusedSimpArgs false
set_option linter.unusedVariables false
attribute [local go_sem] n_lt2 n_lt3 n_lt4 n_le2 n_le3
open Go.RowKit

theorem wpList_append_row2 {P : Program} {ops : Array Oper} {rest : List Oper} {o : Oper} {a : Act} {w : World} {Q : Exit → Act → World → Prop} (hgd : o.guard = none) (s x : Operand) (t : TypeId)
    (ho : o.op = .call { callee := .builtin .append, args := #[s, x], argTypes := #[t, t] })
    (e : TypeId) (z : Value) (size bytes : Nat) (ht : P.underlying t = some (.slice e)) (hinfo : (P.info? e).map (fun i => (i.zero, i.size, i.bytes)) = some (some z, size, bytes)) (hzs : z.cells.size = size) (hsz : 0 < size)
    (lo : Nat) (A : Option Addr) (n cap : Nat) (xs : List Int) (hs : a.eval s = .slice A n cap) (hR : Row w lo e size A n cap xs)
    (ad : Addr) (m c : Nat) (news : List Int) (hx : a.eval x = .slice (some ad) m c) (hl : news.length = m * size) (hnews : ∀ j u, (ints news)[j]? = some u → w.cell? (ad.add j) = some u)
    (h63 : n + m ≤ maxLen) (hbytes : (n + m) * bytes ≤ 140737488355328) (hlo : lo ≤ w.heap.size)
    (h : ∀ A' cap' w', Row w' lo e size A' (n + m) cap' (xs ++ news) → Below lo w w' → Wrote w w' A → (∀ a', A' = some a' → (∃ a, A = some a ∧ a.block = a'.block) ∨ a'.block = w.heap.size) → wpList P ops Q rest (a.put o.dst (.slice A' (n + m) cap')) w') :
    wpList P ops Q (o :: rest) a w := by
  obtain ⟨i, hi, hiz, his, hib⟩ : ∃ i, P.info? e = some i ∧ i.zero = some z ∧ i.size = size ∧ i.bytes = bytes := by
    cases hq : P.info? e with
    | none => rw [hq] at hinfo; simp at hinfo
    | some i =>
      rw [hq] at hinfo
      simp only [Option.map_some, Option.some.injEq, Prod.mk.injEq] at hinfo
      exact ⟨i, rfl, hinfo.1, hinfo.2.1, hinfo.2.2⟩
  refine wpList_append_own_at _ hgd s x t ho lo e i z size bytes ht hi hiz his hib hzs hsz _ n (ints xs) hs hR ad m c (ints news) hx (by rw [ints_length]; exact hl) hnews (ints_oneCell' news) h63 hbytes hlo ?_
  intro v' w' hown hg _ hloc
  have hw : Wrote w w' A := by cases A <;> exact hg
  rw [← ints_append] at hown
  have hb : Below lo w w' := (Below.refl lo w).grown hg hlo (fun k hk => by
    cases A with
    | none => simp [Value.ownBlock] at hk
    | some a0 =>
      simp only [Value.ownBlock, Option.some.injEq] at hk
      subst hk
      exact hR.ge a0 rfl)
  rcases hown.2 with ⟨rfl, h0⟩ | ⟨g, c', cur, rfl, _⟩
  · have hn0 : n + m = 0 := h0
    rw [hn0] at h hown
    exact h none 0 w' hown hb hw (by simp)
  · refine h _ _ w' hown hb hw (fun a' ha' => ?_)
    obtain rfl := Option.some.inj ha'
    rcases hloc with h1 | h1
    · cases A with
      | none => simp [Value.ownBlock] at h1
      | some a0 => exact .inl ⟨a0, rfl, by simpa [Value.ownBlock] using h1.symm⟩
    · exact .inr (by simpa [Value.ownBlock] using h1)
theorem cell_two_new (w : World) (x y : Value) (t : TypeId) : ∀ j u, [x, y][j]? = some u → (w.alloc (.cells #[x, y] t)).cell? ((⟨w.heap.size, 0, none⟩ : Addr).add j) = some u := by
  intro j u hj
  match j, hj with
  | 0, hj => simp at hj; subst hj; simp [Addr.add]
  | 1, hj => simp at hj; subst hj; simp [Addr.add]
end Go.Proofs.YtbheflinchabgaaGreatDoor
namespace Go.Proofs.YtbheflinchabgaaGreatDoor
set_option linter.unusedSimpArgs false
set_option linter.unusedVariables false
attribute [local go_sem] n_lt2 n_lt3 n_lt4 n_le2 n_le3
open Go.RowKit

/-- Only the rows at A and B (and new memory) have been written. -/
structure Wr2 (w w' : World) (A B : Option Addr) : Prop where
  os : w'.os = w.os
  tape : w'.tape = w.tape
  output : w'.output = w.output
  size : w.heap.size ≤ w'.heap.size
  block : ∀ k, k < w.heap.size → (∀ a, A = some a → a.block ≠ k) → (∀ b, B = some b → b.block ≠ k) → w'.heap[k]? = w.heap[k]?
theorem ne_map {A : Option Addr} {k : Nat} (h : ∀ a, A = some a → a.block ≠ k) : some k ≠ A.map (·.block) := by
  cases A with
  | none => simp
  | some a => simp only [Option.map_some, ne_eq, Option.some.injEq]; exact fun e => h a rfl e.symm
theorem Wr2.of {w v v1 w' : World} {A B : Option Addr} (h0 : Below w.heap.size w v) (h1 : Wrote v v1 A) (h2 : Wrote v1 w' B) : Wr2 w w' A B :=
  ⟨h2.os.trans (h1.os.trans h0.os), h2.tape.trans (h1.tape.trans h0.tape), h2.output.trans (h1.output.trans h0.output), Nat.le_trans h0.size (Nat.le_trans h1.size h2.size),
    fun k hk ha hb => ((World.grownBy.block h2 k (Nat.lt_of_lt_of_le (Nat.lt_of_lt_of_le hk h0.size) h1.size) (ne_map hb)).trans (World.grownBy.block h1 k (Nat.lt_of_lt_of_le hk h0.size) (ne_map ha))).trans (h0.block k hk)⟩
theorem Wr2.below {L : Nat} {a w w' : World} {A B : Option Addr} (h : Wr2 w w' A B) (h1 : Below L a w) (hL : L ≤ w.heap.size) (hA : ∀ x, A = some x → L ≤ x.block) (hB : ∀ x, B = some x → L ≤ x.block) : Below L a w' :=
  ⟨h.os.trans h1.os, h.tape.trans h1.tape, h.output.trans h1.output, Nat.le_trans h1.size h.size,
    fun k hk => (h.block k (Nat.lt_of_lt_of_le hk hL) (fun x hx => by have := hA x hx; omega) (fun x hx => by have := hB x hx; omega)).trans (h1.block k hk)⟩
theorem Row.wr2 {w w' : World} {lo : Nat} {e : TypeId} {s : Nat} {O A B : Option Addr} {n cap : Nat} {zs : List Int} (h : Row w lo e s O n cap zs) (hw : Wr2 w w' A B) (h1 : ∀ a b, O = some a → A = some b → a.block ≠ b.block) (h2 : ∀ a b, O = some a → B = some b → a.block ≠ b.block) : Row w' lo e s O n cap zs :=
  h.keep fun a ha => hw.block _ (h.lt a ha) (fun b hb e => h1 a b ha hb e.symm) (fun b hb e => h2 a b ha hb e.symm)
theorem Sl.wr2 {w w' : World} {s : Nat} {O A B : Option Addr} {n : Nat} {zs : List Int} (h : Sl w s O n zs) (hw : Wr2 w w' A B) (h1 : 0 < n → ∀ a b, O = some a → A = some b → a.block ≠ b.block) (h2 : 0 < n → ∀ a b, O = some a → B = some b → a.block ≠ b.block) : Sl w' s O n zs :=
  ⟨h.1, fun hn => by
    obtain ⟨b, off, rfl, hbl, hj⟩ := h.2 hn
    refine ⟨b, off, rfl, Nat.lt_of_lt_of_le hbl hw.size, fun j hjn => ?_⟩
    exact (World.cell?_of_block (a := ⟨b, off + j, none⟩) (hw.block b hbl (fun c hc e => h1 hn _ c rfl hc e.symm) (fun c hc e => h2 hn _ c rfl hc e.symm))).trans (hj j hjn)⟩
theorem Blk.wr2 {w w' : World} {g : Nat} {e : TypeId} {cs : Array Value} {A B : Option Addr} (h : Blk w g e cs) (hw : Wr2 w w' A B) (h1 : ∀ a, A = some a → a.block ≠ g) (h2 : ∀ a, B = some a → a.block ≠ g) : Blk w' g e cs :=
  (hw.block g h.lt h1 h2).trans h
theorem Blk.wroteA {w w' : World} {g : Nat} {e : TypeId} {cs : Array Value} {A : Option Addr} (h : Blk w g e cs) (hw : Wrote w w' A) (h1 : ∀ a, A = some a → a.block ≠ g) : Blk w' g e cs :=
  (World.grownBy.block hw g h.lt (ne_map h1)).trans h
end Go.Proofs.YtbheflinchabgaaGreatDoor
namespace Go.Proofs.YtbheflinchabgaaGreatDoor
set_option linter.unusedSimpArgs false
set_option linter.unusedVariables false
attribute [local go_sem] n_lt2 n_lt3 n_lt4 n_le2 n_le3
open Go.RowKit
attribute [local go_sem] Ext.cell Ext.frozen
/-- What a call leaves that hands back a client of its own (from block lo on) with one answer more. -/
abbrev RetHeard (w : World) (lo : Nat) (i0 t0 : Int) (n : Nat) (zp : List Int) (m : Nat) (zq : List Int) (en : Ending) (w' : World) : Prop :=
  ∃ A c B d, en = .returned (.agg #[.int .i64 i0, .slice A n c, .slice B m d, .int .i64 t0]) ∧ Row w' lo 32 7 A n c zp ∧ Row w' lo 78 4 B m d zq ∧ (∀ a b, A = some a → B = some b → a.block ≠ b.block) ∧ Below lo w w'
theorem four_sets {w : World} {lo g E : Nat} {s : Nat} {A : Option Addr} {n c : Nat} {zs : List Int} (R : Row w lo E s A n c zs) (h : ∀ a, A = some a → a.block ≠ g) (y0 y1 y2 y3 : Value) : Row ((((w.setCell ⟨g, 0, none⟩ y0).setCell ⟨g, 1, none⟩ y1).setCell ⟨g, 2, none⟩ y2).setCell ⟨g, 3, none⟩ y3) lo E s A n c zs :=
  (((R.far (p := ⟨g, 0, none⟩) h y0).far (p := ⟨g, 1, none⟩) h y1).far (p := ⟨g, 2, none⟩) h y2).far (p := ⟨g, 3, none⟩) h y3
theorem four_below {w0 w : World} {lo g : Nat} (B : Below lo w0 w) (h : lo ≤ g) (y0 y1 y2 y3 : Value) : Below lo w0 ((((w.setCell ⟨g, 0, none⟩ y0).setCell ⟨g, 1, none⟩ y1).setCell ⟨g, 2, none⟩ y2).setCell ⟨g, 3, none⟩ y3) :=
  (((B.setCell (p := ⟨g, 0, none⟩) h y0).setCell (p := ⟨g, 1, none⟩) h y1).setCell (p := ⟨g, 2, none⟩) h y2).setCell (p := ⟨g, 3, none⟩) h y3
theorem btrans {lo : Nat} {w a b : World} (h1 : Below lo w a) (h2 : Below lo a b) : Below lo w b :=
  ⟨h2.os.trans h1.os, h2.tape.trans h1.tape, h2.output.trans h1.output, Nat.le_trans h1.size h2.size, fun k hk => (h2.block k hk).trans (h1.block k hk)⟩
set_option maxRecDepth 100000 in
set_option maxHeartbeats 4000000 in
theorem answered_any (lo : Nat) (A : Option Addr) (n c : Nat) (B : Option Addr) (m d : Nat) (i0 t0 x0 x1 x2 x3 : Int) (zp zq : List Int) (w : World) (hP : Row w lo 32 7 A n c zp) (hQ : Row w lo 78 4 B m d zq) (hap : ∀ a b, A = some a → B = some b → a.block ≠ b.block) (hlo : lo ≤ w.heap.size) (hm : m ≤ 1000) :
    Calls Tryz.prog 44 #[.agg #[.int .i64 i0, .slice A n c, .slice B m d, .int .i64 t0], .agg #[.int .i64 x0, .int .i64 x1, .int .i64 x2, .int .i64 x3]] w (RetHeard w lo i0 x1 n zp (m + 1) (zq ++ [x0, x1, x2, x3])) := by
  have HP := Lib.hid hP
  have HQ := Lib.hid hQ
  have HAP := Lib.hid hap
  have AL := Lib.hid hP.lt
  have BL := Lib.hid hQ.lt
  clear hP hQ hap
  go_enter Tryz.func44, Tryz.ntmps44
  go_wp2_with (at_builtin; refine wpList_append_row2 rfl _ _ 33 rfl 78 (.agg #[.int .i64 0, .int .i64 0, .int .i64 0, .int .i64 0]) 4 32 Tryz.underlying33 info_Got6 (by simp [Value.cells]) (by decide) lo B m d zq rfl ((((HQ.out.alloc _).alloc _).alloc _).alloc _) ⟨w.heap.size + 1 + 1 + 1, 0, none⟩ 1 1 [x0, x1, x2, x3] rfl rfl (cell_four_at _ _ _ _ _ _ _ (by simp)) (by unfold maxLen; omega) (by omega) (by simp; omega) ?_; intro B5 d5 w5 R5 b5 W5 L5; have K5 : Blk w5 w.heap.size 35 #[.int .i64 i0, .slice A n c, .slice B m d, .int .i64 t0] := Blk.wroteA ((((Blk.new_at _ _ _ _ rfl).alloc _).alloc _).alloc _) W5 (fun a ha => Nat.ne_of_lt (BL.out a ha)); have G5 : Blk w5 (w.heap.size + 1) 78 #[.int .i64 x0, .int .i64 x1, .int .i64 x2, .int .i64 x3] := Blk.wroteA (((Blk.new_at _ _ _ _ (by simp)).alloc _).alloc _) W5 (fun a ha => Nat.ne_of_lt (Nat.lt_succ_of_lt (BL.out a ha))); have R6 : Blk w5 (w.heap.size + 1 + 1) 35 #[.int .i64 0, .slice none 0 0, .slice none 0 0, .int .i64 0] := Blk.wroteA ((Blk.new_at _ _ _ _ (by simp)).alloc _) W5 (fun a ha => Nat.ne_of_lt (Nat.lt_succ_of_lt (Nat.lt_succ_of_lt (BL.out a ha)))); have k0 := K5.cell 0; have k1 := K5.cell 1; have k2 := K5.cell 2; have k3 := K5.cell 3; have y0 := K5.frozen 0; have y1 := K5.frozen 1; have y2 := K5.frozen 2; have y3 := K5.frozen 3; have kl := K5.lt; have g0 := G5.cell 0; have g1 := G5.cell 1; have g2 := G5.cell 2; have g3 := G5.cell 3; have gl := G5.lt; have r0 := R6.cell 0; have r1 := R6.cell 1; have r2 := R6.cell 2; have r3 := R6.cell 3; have z0 := R6.frozen 0; have z1 := R6.frozen 1; have z2 := R6.frozen 2; have z3 := R6.frozen 3; have rl := R6.lt)
  have P5 := ((((HP.out.alloc (.cells #[.int .i64 i0, .slice A n c, .slice B m d, .int .i64 t0] 35)).alloc _).alloc _).alloc _).wrote W5 HAP.out
  have bw : Below lo w w5 := btrans (((((Below.refl lo w).alloc hlo _).alloc (by simp; omega) _).alloc (by simp; omega) _).alloc (by simp; omega) _) b5
  have hA0 : ∀ a, A = some a → a.block ≠ w.heap.size := fun a ha => by have := AL.out a ha; omega
  have hA2 : ∀ a, A = some a → a.block ≠ w.heap.size + 1 + 1 := fun a ha => by have := AL.out a ha; omega
  have hB5 : ∀ a, B5 = some a → a.block < w.heap.size ∨ w.heap.size + 1 + 1 + 1 + 1 = a.block := fun a ha => by
    rcases L5 a ha with ⟨a0, h1, h2⟩ | h2
    · left; rw [← h2]; exact BL.out a0 h1
    · right; simp at h2; omega
  have hB0 : ∀ a, B5 = some a → a.block ≠ w.heap.size := fun a ha => by have := hB5 a ha; omega
  have hB2 : ∀ a, B5 = some a → a.block ≠ w.heap.size + 1 + 1 := fun a ha => by have := hB5 a ha; omega
  have hap5 : ∀ a b, A = some a → B5 = some b → a.block ≠ b.block := fun a b ha hb => by
    rcases L5 b hb with ⟨a0, h1, h2⟩ | h2
    · rw [← h2]; exact HAP.out a a0 ha h1
    · have := AL.out a ha; simp at h2; omega
  clear L5 hB5 W5 b5
  refine bodyPost_ret (v := .agg #[.int .i64 i0, .slice A n c, .slice B5 (m + 1) d5, .int .i64 x1]) (by simp [results, Tryz.results44, go_sem, *]) rfl ⟨_, _, _, _, rfl, ?_, ?_, hap5, ?_⟩
  · exact four_sets ((P5.far (p := ⟨w.heap.size, 2, none⟩) hA0 _).far (p := ⟨w.heap.size, 3, none⟩) hA0 _) hA2 _ _ _ _
  · exact four_sets ((R5.far (p := ⟨w.heap.size, 2, none⟩) hB0 _).far (p := ⟨w.heap.size, 3, none⟩) hB0 _) hB2 _ _ _ _
  · exact four_below ((bw.setCell (p := ⟨w.heap.size, 2, none⟩) hlo _).setCell (p := ⟨w.heap.size, 3, none⟩) hlo _) (by omega) _ _ _ _
end Go.Proofs.YtbheflinchabgaaGreatDoor
namespace Go.Proofs.YtbheflinchabgaaGreatDoor
set_option linter.unusedSimpArgs false
set_option linter.unusedVariables false
attribute [local go_sem] n_lt2 n_lt3 n_lt4 n_le2 n_le3
open Go.RowKit
attribute [local go_sem] Ext.cell Ext.frozen
def ackB (c q x l : Int) : Bool := inB c 2 5 && (inB q 1 2000 && (inB l q 2000 && (if q < l then decide (x = 0) else inB x 1 2000)))
def ackFit (i0 : Int) (wl : List Wt) (gl : List Gt) (t0 c q x l : Int) : Bool := ackB c q x l && (decide (i0 = c) && (decide (pendS wl gl = q) && (decide (¬ (pendW wl gl).k = 4) && decide (t0 < x))))
/-- The client behind an answer g. -/
def heardR (i0 : Int) (wl : List Wt) (gl : List Gt) (t0 : Int) (fit : Bool) (g : Gt) : Int × List Wt × List Gt × Int :=
  if clientB i0 wl gl t0 = true then (if fit = true then (i0, wl, gl ++ [g], g.x) else (i0, wl, gl, t0)) else (0, [], [], 0)
abbrev RetR (w : World) (r : Int × List Wt × List Gt × Int) : Ending → World → Prop := RetHeard w w.heap.size r.1 r.2.2.2 r.2.1.length (WT r.2.1) r.2.2.1.length (GT r.2.2.1)
theorem heardR_nil {i0 t0 : Int} {wl : List Wt} {gl : List Gt} {fit : Bool} {g : Gt} (h : clientB i0 wl gl t0 = false) : heardR i0 wl gl t0 fit g = (0, [], [], 0) := by unfold heardR; rw [h]; rfl
theorem heardR_no {i0 t0 : Int} {wl : List Wt} {gl : List Gt} {fit : Bool} {g : Gt} (h : clientB i0 wl gl t0 = true) (hf : fit = false) : heardR i0 wl gl t0 fit g = (i0, wl, gl, t0) := by unfold heardR; rw [if_pos h, hf]; rfl
theorem heardR_yes {i0 t0 : Int} {wl : List Wt} {gl : List Gt} {fit : Bool} {g : Gt} (h : clientB i0 wl gl t0 = true) (hf : fit = true) : heardR i0 wl gl t0 fit g = (i0, wl, gl ++ [g], g.x) := by unfold heardR; rw [if_pos h, hf]; rfl
theorem retR_nil {w w' : World} (h : Below w.heap.size w w') : RetR w (0, [], [], 0) (.returned (.agg #[.int .i64 0, .slice none 0 0, .slice none 0 0, .int .i64 0])) w' :=
  ⟨none, 0, none, 0, rfl, Row.nil _ _ _ _, Row.nil _ _ _ _, (fun a b ha => by cases ha), h⟩
theorem ackB_eq (c q x l : Int) : ackB c q x l = (inB c 2 5 && (inB q 1 2000 && (inB l q 2000 && (if l = q then inB x 1 2000 else decide (x = 0))))) := by
  unfold ackB
  cases h : inB l q 2000 with
  | false => simp
  | true =>
    have hq := (inB_iff _ _ _).1 h
    by_cases he : l = q
    · rw [if_pos he, if_neg (by omega)]
    · rw [if_neg he, if_pos (by omega)]
set_option maxHeartbeats 2000000 in
theorem ackOk_any (a0 a1 a2 a3 : Int) (w : World) :
    Calls Tryz.prog 43 #[.agg #[.int .i64 a0, .int .i64 a1, .int .i64 a2, .int .i64 a3]] w fun e' w' => e' = .returned (.bool (ackB a0 a1 a2 a3)) ∧ Below w.heap.size w w' := by
  go_enter Tryz.func43, Tryz.ntmps43
  go_wp2_with (first | (go_at_call 67; refine (askerOk_any _ _).mono ?_; rintro e w' ⟨rfl, rfl⟩) | (go_at_call 68; refine (seqOk_any _ _).mono ?_; rintro e w' ⟨rfl, rfl⟩) | (go_at_call 93; refine (indexOk_any _ _).mono ?_; rintro e w' ⟨rfl, rfl⟩) | (go_at_call 59; refine (between_any _ _ _ _).mono ?_; rintro e w' ⟨rfl, rfl⟩) | (go_at_call 95; refine (foundOk_any _ _ _).mono ?_; rintro e w' ⟨rfl, rfl⟩))
  all_goals (go_ret; rw [ackB_eq]; exact ⟨ret_bool (by first | (simp [*, beqI]; done) | (subst_vars; simp [*, beqI]; done) | (simp [*, beqI]; intros; omega) | (simp_all [beqI]; done)), by (repeat' (first | (with_reducible exact Below.refl _ _) | (with_reducible assumption) | (with_reducible refine Below.alloc ?_ ?_ _) | (with_reducible refine Below.drew ?_) | (with_reducible refine Below.setCell ?_ ?_ _) | (with_reducible refine bstep (by assumption) ?_ ?_) | (with_reducible exact Nat.le_refl _) | omega | (simp [*]; done) | (simp [*]; omega)))⟩)
end Go.Proofs.YtbheflinchabgaaGreatDoor
namespace Go.Proofs.YtbheflinchabgaaGreatDoor
set_option linter.unusedSimpArgs false
set_option linter.unusedVariables false
attribute [local go_sem] n_lt2 n_lt3 n_lt4 n_le2 n_le3
open Go.RowKit
attribute [local go_sem] Ext.cell Ext.frozen
set_option maxRecDepth 100000 in
set_option maxHeartbeats 8000000 in
theorem heardAck_any (A : Option Addr) (n c : Nat) (B : Option Addr) (m d : Nat) (i0 t0 : Int) (wl : List Wt) (gl : List Gt) (a0 a1 a2 a3 : Int) (w : World) (hP : Sl w 7 A n (WT wl)) (hQ : Sl w 4 B m (GT gl)) (hl : wl.length = n) (hr : gl.length = m) (hn : n ≤ maxLen) (hm : m ≤ maxLen) :
    Calls Tryz.prog 16 #[.agg #[.int .i64 i0, .slice A n c, .slice B m d, .int .i64 t0], .agg #[.int .i64 a0, .int .i64 a1, .int .i64 a2, .int .i64 a3]] w (RetR w (heardR i0 wl gl t0 (ackFit i0 wl gl t0 a0 a1 a2 a3) ⟨pendS wl gl, a2, 0, 0⟩)) := by
  have HP := Lib.hid (fun (w' : World) (hB : Below w.heap.size w w') => hP.below hB)
  have HQ := Lib.hid (fun (w' : World) (hB : Below w.heap.size w w') => hQ.below hB)
  have c1 := fun (v : World) (hv : Sl v 7 A n (WT wl)) (hu : Sl v 4 B m (GT gl)) => clientOk_any A n c B m d i0 t0 wl gl v hv hu hl hr hn hm
  clear hP hQ
  cases hb : clientB i0 wl gl t0 with
  | false =>
    rw [heardR_nil hb]
    rw [hb] at c1
    have C1 := Lib.hid c1
    clear c1
    go_enter Tryz.func16, Tryz.ntmps16
    go_wp2_with fail
    obtain ⟨v0, hv⟩ : ∃ x : World, x = (((w.alloc (.cells #[.int .i64 i0, .slice A n c, .slice B m d, .int .i64 t0] 35)).alloc (.cells #[.int .i64 a0, .int .i64 a1, .int .i64 a2, .int .i64 a3] 71)).alloc (.cells #[.int .i64 0, .slice none 0 0, .slice none 0 0, .int .i64 0] 35)) := ⟨_, rfl⟩
    rw [← hv]
    have F_0 : Below w.heap.size w v0 := by rw [hv]; (repeat' (first | (with_reducible exact Below.refl _ _) | (with_reducible assumption) | (with_reducible refine Below.alloc ?_ ?_ _) | (with_reducible refine Below.drew ?_) | (with_reducible refine Below.setCell ?_ ?_ _) | (with_reducible refine bstep (by assumption) ?_ ?_) | (with_reducible exact Nat.le_refl _) | omega | (simp [*]; done) | (simp [*]; omega)))
    have K_0 : Blk v0 w.heap.size 35 #[.int .i64 i0, .slice A n c, .slice B m d, .int .i64 t0] := by rw [hv]; exact ((Blk.new_at _ _ _ _ rfl).alloc _).alloc _
    have G_0 : Blk v0 (w.heap.size + 1) 71 #[.int .i64 a0, .int .i64 a1, .int .i64 a2, .int .i64 a3] := by rw [hv]; exact (Blk.new_at _ _ _ _ (by simp)).alloc _
    have R_0 : Blk v0 (w.heap.size + 1 + 1) 35 #[.int .i64 0, .slice none 0 0, .slice none 0 0, .int .i64 0] := by rw [hv]; exact Blk.new_at _ _ _ _ (by simp)
    clear hv
    have R_v0 := R_0.lt
    refine (C1.out v0 (HP.out v0 F_0) (HQ.out v0 F_0)).mono ?_
    rintro e w1 ⟨rfl, b1⟩
    have K_1 := K_0.below b1
    clear K_0
    have G_1 := G_0.below b1
    clear G_0
    have R_1 := R_0.below b1
    clear R_0
    have F_1 := bthen F_0 b1
    have rRl := R_1.lt
    have rR0 := R_1.cell 0
    have rR1 := R_1.cell 1
    have rR2 := R_1.cell 2
    have rR3 := R_1.cell 3
    obtain ⟨rRz0, rRz1, rRz2, rRz3⟩ := bf4 R_1
    go_wp2
    refine bodyPost_ret (v := .agg #[.int .i64 0, .slice none 0 0, .slice none 0 0, .int .i64 0]) (by simp [results, Tryz.results16, go_sem, *]) rfl (retR_nil (four_below F_1 (Nat.le_succ_of_le (Nat.le_succ _)) _ _ _ _))
  | true =>
    have hle := clientB_le hb
    rw [hl, hr] at hle
    rw [hb] at c1
    have C1 := Lib.hid c1
    clear c1
    have HLE := Lib.hid hle.2
    obtain ⟨s, hs⟩ : ∃ x, pendS wl gl = x := ⟨_, rfl⟩
    obtain ⟨⟨k, o, p1, p2, p3, p4, p5⟩, hw⟩ : ∃ x, pendW wl gl = x := ⟨_, rfl⟩
    have hkw : (pendW wl gl).k = k := by rw [hw]
    have hs1 := hs
    have HS := Lib.hid hs
    have HW := Lib.hid hw
    clear hs hw
    cases hB : ackB a0 a1 a2 a3 with
    | false =>
      have HB := Lib.hid hB
      rw [heardR_no hb (show ackFit i0 wl gl t0 a0 a1 a2 a3 = false by unfold ackFit; rw [hB]; rfl)]
      clear hb
      show Calls _ _ _ w (RetHeard w w.heap.size i0 t0 wl.length (WT wl) gl.length (GT gl))
      rw [hl, hr]
      go_enter Tryz.func16, Tryz.ntmps16
      go_wp2_with fail
      obtain ⟨v0, hv⟩ : ∃ x : World, x = (((w.alloc (.cells #[.int .i64 i0, .slice A n c, .slice B m d, .int .i64 t0] 35)).alloc (.cells #[.int .i64 a0, .int .i64 a1, .int .i64 a2, .int .i64 a3] 71)).alloc (.cells #[.int .i64 0, .slice none 0 0, .slice none 0 0, .int .i64 0] 35)) := ⟨_, rfl⟩
      rw [← hv]
      have F_0 : Below w.heap.size w v0 := by rw [hv]; (repeat' (first | (with_reducible exact Below.refl _ _) | (with_reducible assumption) | (with_reducible refine Below.alloc ?_ ?_ _) | (with_reducible refine Below.drew ?_) | (with_reducible refine Below.setCell ?_ ?_ _) | (with_reducible refine bstep (by assumption) ?_ ?_) | (with_reducible exact Nat.le_refl _) | omega | (simp [*]; done) | (simp [*]; omega)))
      have K_0 : Blk v0 w.heap.size 35 #[.int .i64 i0, .slice A n c, .slice B m d, .int .i64 t0] := by rw [hv]; exact ((Blk.new_at _ _ _ _ rfl).alloc _).alloc _
      have G_0 : Blk v0 (w.heap.size + 1) 71 #[.int .i64 a0, .int .i64 a1, .int .i64 a2, .int .i64 a3] := by rw [hv]; exact (Blk.new_at _ _ _ _ (by simp)).alloc _
      have R_0 : Blk v0 (w.heap.size + 1 + 1) 35 #[.int .i64 0, .slice none 0 0, .slice none 0 0, .int .i64 0] := by rw [hv]; exact Blk.new_at _ _ _ _ (by simp)
      clear hv
      have R_v0 := R_0.lt
      refine (C1.out v0 (HP.out v0 F_0) (HQ.out v0 F_0)).mono ?_
      rintro e w1 ⟨rfl, b1⟩
      have K_1 := K_0.below b1
      clear K_0
      have G_1 := G_0.below b1
      clear G_0
      have R_1 := R_0.below b1
      clear R_0
      have F_1 := bthen F_0 b1
      have rKl := K_1.lt
      have rK0 := K_1.cell 0
      have rK1 := K_1.cell 1
      have rK2 := K_1.cell 2
      have rK3 := K_1.cell 3
      go_wp2_with fail
      refine (copyClient_any A n c B m d i0 t0 (WT wl) (GT gl) w1 (HP.out w1 F_1) (HQ.out w1 F_1) (by omega) (by omega)).mono ?_
      rintro e w2 ⟨A', c', B', d', rfl, RA, RB, hne, b2⟩
      clear rKl rK0 rK1 rK2 rK3
      have K_2 := K_1.below b2
      clear K_1
      have G_2 := G_1.below b2
      clear G_1
      have R_2 := R_1.below b2
      clear R_1
      have F_2 := bthen F_1 b2
      have RA_2 := RA.mono (show v0.heap.size ≤ w1.heap.size from b1.size)
      have RB_2 := RB.mono (show v0.heap.size ≤ w1.heap.size from b1.size)
      clear RA RB
      have rKl := K_2.lt
      have rK0 := K_2.cell 0
      have rK1 := K_2.cell 1
      have rK2 := K_2.cell 2
      have rK3 := K_2.cell 3
      go_wp2_with fail
      refine calls_named ?_
      rintro w3 hw3
      clear rKl rK0 rK1 rK2 rK3
      have b3 : Below w2.heap.size w2 w3 := by rw [hw3]; exact (Below.refl _ _).alloc (Nat.le_refl _) _
      have N_3 : Blk w3 w2.heap.size 35 #[.int .i64 i0, .slice (some A') n c', .slice (some B') m d', .int .i64 t0] := by rw [hw3]; exact Blk.new_at _ _ _ _ rfl
      clear hw3
      have K_3 := K_2.below b3
      clear K_2
      have G_3 := G_2.below b3
      clear G_2
      have R_3 := R_2.below b3
      clear R_2
      have RA_3 := RA_2.below b3
      clear RA_2
      have RB_3 := RB_2.below b3
      clear RB_2
      have F_3 := bthen F_2 b3
      have O_3 := N_3
      clear N_3
      have c4 := pending_any A n c B m d i0 t0 wl gl w3 (HP.out w3 F_3) (HQ.out w3 F_3) hl hr hn hm HLE.out
      rw [HW.out, HS.out] at c4
      refine (c4).mono ?_
      rintro e w4 ⟨rfl, b4⟩
      have K_4 := K_3.below b4
      clear K_3
      have G_4 := G_3.below b4
      clear G_3
      have R_4 := R_3.below b4
      clear R_3
      have O_4 := O_3.below b4
      clear O_3
      have RA_4 := RA_3.below b4
      clear RA_3
      have RB_4 := RB_3.below b4
      clear RB_3
      have F_4 := bthen F_3 b4
      clear c4
      have rGl := G_4.lt
      have rG0 := G_4.cell 0
      have rG1 := G_4.cell 1
      have rG2 := G_4.cell 2
      have rG3 := G_4.cell 3
      go_wp2_with fail
      refine calls_named ?_
      rintro w5 hw5
      clear rGl rG0 rG1 rG2 rG3
      have b5 : Below w4.heap.size w4 w5 := by rw [hw5]; exact (Below.refl _ _).alloc (Nat.le_refl _) _
      have N_5 : Blk w5 w4.heap.size 32 #[.int .i64 k, .int .i64 o, .int .i64 p1, .int .i64 p2, .int .i64 p3, .int .i64 p4, .int .i64 p5] := by rw [hw5]; exact Blk.new_at _ _ _ _ rfl
      clear hw5
      have K_5 := K_4.below b5
      clear K_4
      have G_5 := G_4.below b5
      clear G_4
      have R_5 := R_4.below b5
      clear R_4
      have O_5 := O_4.below b5
      clear O_4
      have RA_5 := RA_4.below b5
      clear RA_4
      have RB_5 := RB_4.below b5
      clear RB_4
      have F_5 := bthen F_4 b5
      have W_5 := N_5
      clear N_5
      have e5 := ackOk_any a0 a1 a2 a3 w5
      rw [HB.out] at e5
      refine (e5).mono ?_
      rintro e w6 ⟨rfl, b6⟩
      have K_6 := K_5.below b6
      clear K_5
      have G_6 := G_5.below b6
      clear G_5
      have R_6 := R_5.below b6
      clear R_5
      have O_6 := O_5.below b6
      clear O_5
      have W_6 := W_5.below b6
      clear W_5
      have RA_6 := RA_5.below b6
      clear RA_5
      have RB_6 := RB_5.below b6
      clear RB_5
      have F_6 := bthen F_5 b6
      clear e5
      have hap : ∀ a b, some A' = some a → some B' = some b → a.block ≠ b.block := fun a b ha hb => by injection ha with ha; injection hb with hb; subst ha; subst hb; exact hne
      have rKl := K_6.lt
      have rK0 := K_6.cell 0
      have rK1 := K_6.cell 1
      have rK2 := K_6.cell 2
      have rK3 := K_6.cell 3
      have rGl := G_6.lt
      have rG0 := G_6.cell 0
      have rG1 := G_6.cell 1
      have rG2 := G_6.cell 2
      have rG3 := G_6.cell 3
      have rOl := O_6.lt
      have rO0 := O_6.cell 0
      have rO1 := O_6.cell 1
      have rO2 := O_6.cell 2
      have rO3 := O_6.cell 3
      have rWl := W_6.lt
      have rW0 := W_6.cell 0
      have rW1 := W_6.cell 1
      have rW2 := W_6.cell 2
      have rW3 := W_6.cell 3
      have rW4 := W_6.cell 4
      have rW5 := W_6.cell 5
      have rW6 := W_6.cell 6
      have hz0 := F_0.size
      have hA : ∀ a, ((some A') : Option Addr) = some a → a.block ≠ w.heap.size + 1 + 1 := fun a ha => by have := RA_6.ge a ha; omega
      have hB : ∀ a, ((some B') : Option Addr) = some a → a.block ≠ w.heap.size + 1 + 1 := fun a ha => by have := RB_6.ge a ha; omega
      have hle : w.heap.size ≤ v0.heap.size := by omega
      have hF := F_6
      have HX := Lib.hid (And.intro hA (And.intro hB (And.intro hle hF)))
      clear hA hB hle hF
      have HPX := Lib.hid RA_6
      have HQX := Lib.hid RB_6
      have HAX := Lib.hid hap
      have rRl := R_6.lt
      have rR0 := R_6.cell 0
      have rR1 := R_6.cell 1
      have rR2 := R_6.cell 2
      have rR3 := R_6.cell 3
      obtain ⟨rRz0, rRz1, rRz2, rRz3⟩ := bf4 R_6
      go_wp2
      refine bodyPost_ret (v := .agg #[.int .i64 i0, .slice (some A') n c', .slice (some B') m d', .int .i64 t0]) (by simp [results, Tryz.results16, go_sem, *]) rfl ⟨_, _, _, _, rfl, ?_, ?_, HAX.out, ?_⟩
      · exact (four_sets HPX.out HX.out.1 _ _ _ _).mono HX.out.2.2.1
      · exact (four_sets HQX.out HX.out.2.1 _ _ _ _).mono HX.out.2.2.1
      · exact four_below HX.out.2.2.2 (Nat.le_succ_of_le (Nat.le_succ _)) _ _ _ _
    | true =>
      have HB := Lib.hid hB
      by_cases hc : i0 = a0
      rotate_left
      · skip
        rw [heardR_no hb (show ackFit i0 wl gl t0 a0 a1 a2 a3 = false by unfold ackFit; rw [decide_eq_false hc]; simp)]
        clear hb
        show Calls _ _ _ w (RetHeard w w.heap.size i0 t0 wl.length (WT wl) gl.length (GT gl))
        rw [hl, hr]
        go_enter Tryz.func16, Tryz.ntmps16
        go_wp2_with fail
        obtain ⟨v0, hv⟩ : ∃ x : World, x = (((w.alloc (.cells #[.int .i64 i0, .slice A n c, .slice B m d, .int .i64 t0] 35)).alloc (.cells #[.int .i64 a0, .int .i64 a1, .int .i64 a2, .int .i64 a3] 71)).alloc (.cells #[.int .i64 0, .slice none 0 0, .slice none 0 0, .int .i64 0] 35)) := ⟨_, rfl⟩
        rw [← hv]
        have F_0 : Below w.heap.size w v0 := by rw [hv]; (repeat' (first | (with_reducible exact Below.refl _ _) | (with_reducible assumption) | (with_reducible refine Below.alloc ?_ ?_ _) | (with_reducible refine Below.drew ?_) | (with_reducible refine Below.setCell ?_ ?_ _) | (with_reducible refine bstep (by assumption) ?_ ?_) | (with_reducible exact Nat.le_refl _) | omega | (simp [*]; done) | (simp [*]; omega)))
        have K_0 : Blk v0 w.heap.size 35 #[.int .i64 i0, .slice A n c, .slice B m d, .int .i64 t0] := by rw [hv]; exact ((Blk.new_at _ _ _ _ rfl).alloc _).alloc _
        have G_0 : Blk v0 (w.heap.size + 1) 71 #[.int .i64 a0, .int .i64 a1, .int .i64 a2, .int .i64 a3] := by rw [hv]; exact (Blk.new_at _ _ _ _ (by simp)).alloc _
        have R_0 : Blk v0 (w.heap.size + 1 + 1) 35 #[.int .i64 0, .slice none 0 0, .slice none 0 0, .int .i64 0] := by rw [hv]; exact Blk.new_at _ _ _ _ (by simp)
        clear hv
        have R_v0 := R_0.lt
        refine (C1.out v0 (HP.out v0 F_0) (HQ.out v0 F_0)).mono ?_
        rintro e w1 ⟨rfl, b1⟩
        have K_1 := K_0.below b1
        clear K_0
        have G_1 := G_0.below b1
        clear G_0
        have R_1 := R_0.below b1
        clear R_0
        have F_1 := bthen F_0 b1
        have rKl := K_1.lt
        have rK0 := K_1.cell 0
        have rK1 := K_1.cell 1
        have rK2 := K_1.cell 2
        have rK3 := K_1.cell 3
        go_wp2_with fail
        refine (copyClient_any A n c B m d i0 t0 (WT wl) (GT gl) w1 (HP.out w1 F_1) (HQ.out w1 F_1) (by omega) (by omega)).mono ?_
        rintro e w2 ⟨A', c', B', d', rfl, RA, RB, hne, b2⟩
        clear rKl rK0 rK1 rK2 rK3
        have K_2 := K_1.below b2
        clear K_1
        have G_2 := G_1.below b2
        clear G_1
        have R_2 := R_1.below b2
        clear R_1
        have F_2 := bthen F_1 b2
        have RA_2 := RA.mono (show v0.heap.size ≤ w1.heap.size from b1.size)
        have RB_2 := RB.mono (show v0.heap.size ≤ w1.heap.size from b1.size)
        clear RA RB
        have rKl := K_2.lt
        have rK0 := K_2.cell 0
        have rK1 := K_2.cell 1
        have rK2 := K_2.cell 2
        have rK3 := K_2.cell 3
        go_wp2_with fail
        refine calls_named ?_
        rintro w3 hw3
        clear rKl rK0 rK1 rK2 rK3
        have b3 : Below w2.heap.size w2 w3 := by rw [hw3]; exact (Below.refl _ _).alloc (Nat.le_refl _) _
        have N_3 : Blk w3 w2.heap.size 35 #[.int .i64 i0, .slice (some A') n c', .slice (some B') m d', .int .i64 t0] := by rw [hw3]; exact Blk.new_at _ _ _ _ rfl
        clear hw3
        have K_3 := K_2.below b3
        clear K_2
        have G_3 := G_2.below b3
        clear G_2
        have R_3 := R_2.below b3
        clear R_2
        have RA_3 := RA_2.below b3
        clear RA_2
        have RB_3 := RB_2.below b3
        clear RB_2
        have F_3 := bthen F_2 b3
        have O_3 := N_3
        clear N_3
        have c4 := pending_any A n c B m d i0 t0 wl gl w3 (HP.out w3 F_3) (HQ.out w3 F_3) hl hr hn hm HLE.out
        rw [HW.out, HS.out] at c4
        refine (c4).mono ?_
        rintro e w4 ⟨rfl, b4⟩
        have K_4 := K_3.below b4
        clear K_3
        have G_4 := G_3.below b4
        clear G_3
        have R_4 := R_3.below b4
        clear R_3
        have O_4 := O_3.below b4
        clear O_3
        have RA_4 := RA_3.below b4
        clear RA_3
        have RB_4 := RB_3.below b4
        clear RB_3
        have F_4 := bthen F_3 b4
        clear c4
        have rGl := G_4.lt
        have rG0 := G_4.cell 0
        have rG1 := G_4.cell 1
        have rG2 := G_4.cell 2
        have rG3 := G_4.cell 3
        go_wp2_with fail
        refine calls_named ?_
        rintro w5 hw5
        clear rGl rG0 rG1 rG2 rG3
        have b5 : Below w4.heap.size w4 w5 := by rw [hw5]; exact (Below.refl _ _).alloc (Nat.le_refl _) _
        have N_5 : Blk w5 w4.heap.size 32 #[.int .i64 k, .int .i64 o, .int .i64 p1, .int .i64 p2, .int .i64 p3, .int .i64 p4, .int .i64 p5] := by rw [hw5]; exact Blk.new_at _ _ _ _ rfl
        clear hw5
        have K_5 := K_4.below b5
        clear K_4
        have G_5 := G_4.below b5
        clear G_4
        have R_5 := R_4.below b5
        clear R_4
        have O_5 := O_4.below b5
        clear O_4
        have RA_5 := RA_4.below b5
        clear RA_4
        have RB_5 := RB_4.below b5
        clear RB_4
        have F_5 := bthen F_4 b5
        have W_5 := N_5
        clear N_5
        have e5 := ackOk_any a0 a1 a2 a3 w5
        rw [HB.out] at e5
        refine (e5).mono ?_
        rintro e w6 ⟨rfl, b6⟩
        have K_6 := K_5.below b6
        clear K_5
        have G_6 := G_5.below b6
        clear G_5
        have R_6 := R_5.below b6
        clear R_5
        have O_6 := O_5.below b6
        clear O_5
        have W_6 := W_5.below b6
        clear W_5
        have RA_6 := RA_5.below b6
        clear RA_5
        have RB_6 := RB_5.below b6
        clear RB_5
        have F_6 := bthen F_5 b6
        clear e5
        have hap : ∀ a b, some A' = some a → some B' = some b → a.block ≠ b.block := fun a b ha hb => by injection ha with ha; injection hb with hb; subst ha; subst hb; exact hne
        have rKl := K_6.lt
        have rK0 := K_6.cell 0
        have rK1 := K_6.cell 1
        have rK2 := K_6.cell 2
        have rK3 := K_6.cell 3
        have rGl := G_6.lt
        have rG0 := G_6.cell 0
        have rG1 := G_6.cell 1
        have rG2 := G_6.cell 2
        have rG3 := G_6.cell 3
        have rOl := O_6.lt
        have rO0 := O_6.cell 0
        have rO1 := O_6.cell 1
        have rO2 := O_6.cell 2
        have rO3 := O_6.cell 3
        have rWl := W_6.lt
        have rW0 := W_6.cell 0
        have rW1 := W_6.cell 1
        have rW2 := W_6.cell 2
        have rW3 := W_6.cell 3
        have rW4 := W_6.cell 4
        have rW5 := W_6.cell 5
        have rW6 := W_6.cell 6
        have hz0 := F_0.size
        have hA : ∀ a, ((some A') : Option Addr) = some a → a.block ≠ w.heap.size + 1 + 1 := fun a ha => by have := RA_6.ge a ha; omega
        have hB : ∀ a, ((some B') : Option Addr) = some a → a.block ≠ w.heap.size + 1 + 1 := fun a ha => by have := RB_6.ge a ha; omega
        have hle : w.heap.size ≤ v0.heap.size := by omega
        have hF := F_6
        have HX := Lib.hid (And.intro hA (And.intro hB (And.intro hle hF)))
        clear hA hB hle hF
        have HPX := Lib.hid RA_6
        have HQX := Lib.hid RB_6
        have HAX := Lib.hid hap
        have rRl := R_6.lt
        have rR0 := R_6.cell 0
        have rR1 := R_6.cell 1
        have rR2 := R_6.cell 2
        have rR3 := R_6.cell 3
        obtain ⟨rRz0, rRz1, rRz2, rRz3⟩ := bf4 R_6
        go_wp2
        refine bodyPost_ret (v := .agg #[.int .i64 i0, .slice (some A') n c', .slice (some B') m d', .int .i64 t0]) (by simp [results, Tryz.results16, go_sem, *]) rfl ⟨_, _, _, _, rfl, ?_, ?_, HAX.out, ?_⟩
        · exact (four_sets HPX.out HX.out.1 _ _ _ _).mono HX.out.2.2.1
        · exact (four_sets HQX.out HX.out.2.1 _ _ _ _).mono HX.out.2.2.1
        · exact four_below HX.out.2.2.2 (Nat.le_succ_of_le (Nat.le_succ _)) _ _ _ _
      subst hc
      by_cases hq : pendS wl gl = a1
      rotate_left
      · skip
        rw [heardR_no hb (show ackFit i0 wl gl t0 i0 a1 a2 a3 = false by unfold ackFit; rw [decide_eq_false hq]; simp)]
        clear hb
        show Calls _ _ _ w (RetHeard w w.heap.size i0 t0 wl.length (WT wl) gl.length (GT gl))
        rw [hl, hr]
        go_enter Tryz.func16, Tryz.ntmps16
        go_wp2_with fail
        obtain ⟨v0, hv⟩ : ∃ x : World, x = (((w.alloc (.cells #[.int .i64 i0, .slice A n c, .slice B m d, .int .i64 t0] 35)).alloc (.cells #[.int .i64 i0, .int .i64 a1, .int .i64 a2, .int .i64 a3] 71)).alloc (.cells #[.int .i64 0, .slice none 0 0, .slice none 0 0, .int .i64 0] 35)) := ⟨_, rfl⟩
        rw [← hv]
        have F_0 : Below w.heap.size w v0 := by rw [hv]; (repeat' (first | (with_reducible exact Below.refl _ _) | (with_reducible assumption) | (with_reducible refine Below.alloc ?_ ?_ _) | (with_reducible refine Below.drew ?_) | (with_reducible refine Below.setCell ?_ ?_ _) | (with_reducible refine bstep (by assumption) ?_ ?_) | (with_reducible exact Nat.le_refl _) | omega | (simp [*]; done) | (simp [*]; omega)))
        have K_0 : Blk v0 w.heap.size 35 #[.int .i64 i0, .slice A n c, .slice B m d, .int .i64 t0] := by rw [hv]; exact ((Blk.new_at _ _ _ _ rfl).alloc _).alloc _
        have G_0 : Blk v0 (w.heap.size + 1) 71 #[.int .i64 i0, .int .i64 a1, .int .i64 a2, .int .i64 a3] := by rw [hv]; exact (Blk.new_at _ _ _ _ (by simp)).alloc _
        have R_0 : Blk v0 (w.heap.size + 1 + 1) 35 #[.int .i64 0, .slice none 0 0, .slice none 0 0, .int .i64 0] := by rw [hv]; exact Blk.new_at _ _ _ _ (by simp)
        clear hv
        have R_v0 := R_0.lt
        refine (C1.out v0 (HP.out v0 F_0) (HQ.out v0 F_0)).mono ?_
        rintro e w1 ⟨rfl, b1⟩
        have K_1 := K_0.below b1
        clear K_0
        have G_1 := G_0.below b1
        clear G_0
        have R_1 := R_0.below b1
        clear R_0
        have F_1 := bthen F_0 b1
        have rKl := K_1.lt
        have rK0 := K_1.cell 0
        have rK1 := K_1.cell 1
        have rK2 := K_1.cell 2
        have rK3 := K_1.cell 3
        go_wp2_with fail
        refine (copyClient_any A n c B m d i0 t0 (WT wl) (GT gl) w1 (HP.out w1 F_1) (HQ.out w1 F_1) (by omega) (by omega)).mono ?_
        rintro e w2 ⟨A', c', B', d', rfl, RA, RB, hne, b2⟩
        clear rKl rK0 rK1 rK2 rK3
        have K_2 := K_1.below b2
        clear K_1
        have G_2 := G_1.below b2
        clear G_1
        have R_2 := R_1.below b2
        clear R_1
        have F_2 := bthen F_1 b2
        have RA_2 := RA.mono (show v0.heap.size ≤ w1.heap.size from b1.size)
        have RB_2 := RB.mono (show v0.heap.size ≤ w1.heap.size from b1.size)
        clear RA RB
        have rKl := K_2.lt
        have rK0 := K_2.cell 0
        have rK1 := K_2.cell 1
        have rK2 := K_2.cell 2
        have rK3 := K_2.cell 3
        go_wp2_with fail
        refine calls_named ?_
        rintro w3 hw3
        clear rKl rK0 rK1 rK2 rK3
        have b3 : Below w2.heap.size w2 w3 := by rw [hw3]; exact (Below.refl _ _).alloc (Nat.le_refl _) _
        have N_3 : Blk w3 w2.heap.size 35 #[.int .i64 i0, .slice (some A') n c', .slice (some B') m d', .int .i64 t0] := by rw [hw3]; exact Blk.new_at _ _ _ _ rfl
        clear hw3
        have K_3 := K_2.below b3
        clear K_2
        have G_3 := G_2.below b3
        clear G_2
        have R_3 := R_2.below b3
        clear R_2
        have RA_3 := RA_2.below b3
        clear RA_2
        have RB_3 := RB_2.below b3
        clear RB_2
        have F_3 := bthen F_2 b3
        have O_3 := N_3
        clear N_3
        have c4 := pending_any A n c B m d i0 t0 wl gl w3 (HP.out w3 F_3) (HQ.out w3 F_3) hl hr hn hm HLE.out
        rw [HW.out, HS.out] at c4
        refine (c4).mono ?_
        rintro e w4 ⟨rfl, b4⟩
        have K_4 := K_3.below b4
        clear K_3
        have G_4 := G_3.below b4
        clear G_3
        have R_4 := R_3.below b4
        clear R_3
        have O_4 := O_3.below b4
        clear O_3
        have RA_4 := RA_3.below b4
        clear RA_3
        have RB_4 := RB_3.below b4
        clear RB_3
        have F_4 := bthen F_3 b4
        clear c4
        have rGl := G_4.lt
        have rG0 := G_4.cell 0
        have rG1 := G_4.cell 1
        have rG2 := G_4.cell 2
        have rG3 := G_4.cell 3
        go_wp2_with fail
        refine calls_named ?_
        rintro w5 hw5
        clear rGl rG0 rG1 rG2 rG3
        have b5 : Below w4.heap.size w4 w5 := by rw [hw5]; exact (Below.refl _ _).alloc (Nat.le_refl _) _
        have N_5 : Blk w5 w4.heap.size 32 #[.int .i64 k, .int .i64 o, .int .i64 p1, .int .i64 p2, .int .i64 p3, .int .i64 p4, .int .i64 p5] := by rw [hw5]; exact Blk.new_at _ _ _ _ rfl
        clear hw5
        have K_5 := K_4.below b5
        clear K_4
        have G_5 := G_4.below b5
        clear G_4
        have R_5 := R_4.below b5
        clear R_4
        have O_5 := O_4.below b5
        clear O_4
        have RA_5 := RA_4.below b5
        clear RA_4
        have RB_5 := RB_4.below b5
        clear RB_4
        have F_5 := bthen F_4 b5
        have W_5 := N_5
        clear N_5
        have e5 := ackOk_any i0 a1 a2 a3 w5
        rw [HB.out] at e5
        refine (e5).mono ?_
        rintro e w6 ⟨rfl, b6⟩
        have K_6 := K_5.below b6
        clear K_5
        have G_6 := G_5.below b6
        clear G_5
        have R_6 := R_5.below b6
        clear R_5
        have O_6 := O_5.below b6
        clear O_5
        have W_6 := W_5.below b6
        clear W_5
        have RA_6 := RA_5.below b6
        clear RA_5
        have RB_6 := RB_5.below b6
        clear RB_5
        have F_6 := bthen F_5 b6
        clear e5
        have hap : ∀ a b, some A' = some a → some B' = some b → a.block ≠ b.block := fun a b ha hb => by injection ha with ha; injection hb with hb; subst ha; subst hb; exact hne
        have rKl := K_6.lt
        have rK0 := K_6.cell 0
        have rK1 := K_6.cell 1
        have rK2 := K_6.cell 2
        have rK3 := K_6.cell 3
        have rGl := G_6.lt
        have rG0 := G_6.cell 0
        have rG1 := G_6.cell 1
        have rG2 := G_6.cell 2
        have rG3 := G_6.cell 3
        have rOl := O_6.lt
        have rO0 := O_6.cell 0
        have rO1 := O_6.cell 1
        have rO2 := O_6.cell 2
        have rO3 := O_6.cell 3
        have rWl := W_6.lt
        have rW0 := W_6.cell 0
        have rW1 := W_6.cell 1
        have rW2 := W_6.cell 2
        have rW3 := W_6.cell 3
        have rW4 := W_6.cell 4
        have rW5 := W_6.cell 5
        have rW6 := W_6.cell 6
        have hz0 := F_0.size
        have hA : ∀ a, ((some A') : Option Addr) = some a → a.block ≠ w.heap.size + 1 + 1 := fun a ha => by have := RA_6.ge a ha; omega
        have hB : ∀ a, ((some B') : Option Addr) = some a → a.block ≠ w.heap.size + 1 + 1 := fun a ha => by have := RB_6.ge a ha; omega
        have hle : w.heap.size ≤ v0.heap.size := by omega
        have hF := F_6
        have HX := Lib.hid (And.intro hA (And.intro hB (And.intro hle hF)))
        clear hA hB hle hF
        have HPX := Lib.hid RA_6
        have HQX := Lib.hid RB_6
        have HAX := Lib.hid hap
        have rRl := R_6.lt
        have rR0 := R_6.cell 0
        have rR1 := R_6.cell 1
        have rR2 := R_6.cell 2
        have rR3 := R_6.cell 3
        obtain ⟨rRz0, rRz1, rRz2, rRz3⟩ := bf4 R_6
        go_wp2
        refine bodyPost_ret (v := .agg #[.int .i64 i0, .slice (some A') n c', .slice (some B') m d', .int .i64 t0]) (by simp [results, Tryz.results16, go_sem, *]) rfl ⟨_, _, _, _, rfl, ?_, ?_, HAX.out, ?_⟩
        · exact (four_sets HPX.out HX.out.1 _ _ _ _).mono HX.out.2.2.1
        · exact (four_sets HQX.out HX.out.2.1 _ _ _ _).mono HX.out.2.2.1
        · exact four_below HX.out.2.2.2 (Nat.le_succ_of_le (Nat.le_succ _)) _ _ _ _
      rw [hs1] at hq
      subst hq
      by_cases hk4 : k = 4
      · skip
        rw [heardR_no hb (show ackFit i0 wl gl t0 i0 s a2 a3 = false by unfold ackFit; rw [hkw, decide_eq_false (not_not_intro hk4)]; simp)]
        clear hb
        show Calls _ _ _ w (RetHeard w w.heap.size i0 t0 wl.length (WT wl) gl.length (GT gl))
        rw [hl, hr]
        have HK4 := Lib.hid hk4
        clear hk4
        go_enter Tryz.func16, Tryz.ntmps16
        go_wp2_with fail
        obtain ⟨v0, hv⟩ : ∃ x : World, x = (((w.alloc (.cells #[.int .i64 i0, .slice A n c, .slice B m d, .int .i64 t0] 35)).alloc (.cells #[.int .i64 i0, .int .i64 (s), .int .i64 a2, .int .i64 a3] 71)).alloc (.cells #[.int .i64 0, .slice none 0 0, .slice none 0 0, .int .i64 0] 35)) := ⟨_, rfl⟩
        rw [← hv]
        have F_0 : Below w.heap.size w v0 := by rw [hv]; (repeat' (first | (with_reducible exact Below.refl _ _) | (with_reducible assumption) | (with_reducible refine Below.alloc ?_ ?_ _) | (with_reducible refine Below.drew ?_) | (with_reducible refine Below.setCell ?_ ?_ _) | (with_reducible refine bstep (by assumption) ?_ ?_) | (with_reducible exact Nat.le_refl _) | omega | (simp [*]; done) | (simp [*]; omega)))
        have K_0 : Blk v0 w.heap.size 35 #[.int .i64 i0, .slice A n c, .slice B m d, .int .i64 t0] := by rw [hv]; exact ((Blk.new_at _ _ _ _ rfl).alloc _).alloc _
        have G_0 : Blk v0 (w.heap.size + 1) 71 #[.int .i64 i0, .int .i64 (s), .int .i64 a2, .int .i64 a3] := by rw [hv]; exact (Blk.new_at _ _ _ _ (by simp)).alloc _
        have R_0 : Blk v0 (w.heap.size + 1 + 1) 35 #[.int .i64 0, .slice none 0 0, .slice none 0 0, .int .i64 0] := by rw [hv]; exact Blk.new_at _ _ _ _ (by simp)
        clear hv
        have R_v0 := R_0.lt
        refine (C1.out v0 (HP.out v0 F_0) (HQ.out v0 F_0)).mono ?_
        rintro e w1 ⟨rfl, b1⟩
        have K_1 := K_0.below b1
        clear K_0
        have G_1 := G_0.below b1
        clear G_0
        have R_1 := R_0.below b1
        clear R_0
        have F_1 := bthen F_0 b1
        have rKl := K_1.lt
        have rK0 := K_1.cell 0
        have rK1 := K_1.cell 1
        have rK2 := K_1.cell 2
        have rK3 := K_1.cell 3
        go_wp2_with fail
        refine (copyClient_any A n c B m d i0 t0 (WT wl) (GT gl) w1 (HP.out w1 F_1) (HQ.out w1 F_1) (by omega) (by omega)).mono ?_
        rintro e w2 ⟨A', c', B', d', rfl, RA, RB, hne, b2⟩
        clear rKl rK0 rK1 rK2 rK3
        have K_2 := K_1.below b2
        clear K_1
        have G_2 := G_1.below b2
        clear G_1
        have R_2 := R_1.below b2
        clear R_1
        have F_2 := bthen F_1 b2
        have RA_2 := RA.mono (show v0.heap.size ≤ w1.heap.size from b1.size)
        have RB_2 := RB.mono (show v0.heap.size ≤ w1.heap.size from b1.size)
        clear RA RB
        have rKl := K_2.lt
        have rK0 := K_2.cell 0
        have rK1 := K_2.cell 1
        have rK2 := K_2.cell 2
        have rK3 := K_2.cell 3
        go_wp2_with fail
        refine calls_named ?_
        rintro w3 hw3
        clear rKl rK0 rK1 rK2 rK3
        have b3 : Below w2.heap.size w2 w3 := by rw [hw3]; exact (Below.refl _ _).alloc (Nat.le_refl _) _
        have N_3 : Blk w3 w2.heap.size 35 #[.int .i64 i0, .slice (some A') n c', .slice (some B') m d', .int .i64 t0] := by rw [hw3]; exact Blk.new_at _ _ _ _ rfl
        clear hw3
        have K_3 := K_2.below b3
        clear K_2
        have G_3 := G_2.below b3
        clear G_2
        have R_3 := R_2.below b3
        clear R_2
        have RA_3 := RA_2.below b3
        clear RA_2
        have RB_3 := RB_2.below b3
        clear RB_2
        have F_3 := bthen F_2 b3
        have O_3 := N_3
        clear N_3
        have c4 := pending_any A n c B m d i0 t0 wl gl w3 (HP.out w3 F_3) (HQ.out w3 F_3) hl hr hn hm HLE.out
        rw [HW.out, HS.out] at c4
        refine (c4).mono ?_
        rintro e w4 ⟨rfl, b4⟩
        have K_4 := K_3.below b4
        clear K_3
        have G_4 := G_3.below b4
        clear G_3
        have R_4 := R_3.below b4
        clear R_3
        have O_4 := O_3.below b4
        clear O_3
        have RA_4 := RA_3.below b4
        clear RA_3
        have RB_4 := RB_3.below b4
        clear RB_3
        have F_4 := bthen F_3 b4
        clear c4
        have rGl := G_4.lt
        have rG0 := G_4.cell 0
        have rG1 := G_4.cell 1
        have rG2 := G_4.cell 2
        have rG3 := G_4.cell 3
        go_wp2_with fail
        refine calls_named ?_
        rintro w5 hw5
        clear rGl rG0 rG1 rG2 rG3
        have b5 : Below w4.heap.size w4 w5 := by rw [hw5]; exact (Below.refl _ _).alloc (Nat.le_refl _) _
        have N_5 : Blk w5 w4.heap.size 32 #[.int .i64 k, .int .i64 o, .int .i64 p1, .int .i64 p2, .int .i64 p3, .int .i64 p4, .int .i64 p5] := by rw [hw5]; exact Blk.new_at _ _ _ _ rfl
        clear hw5
        have K_5 := K_4.below b5
        clear K_4
        have G_5 := G_4.below b5
        clear G_4
        have R_5 := R_4.below b5
        clear R_4
        have O_5 := O_4.below b5
        clear O_4
        have RA_5 := RA_4.below b5
        clear RA_4
        have RB_5 := RB_4.below b5
        clear RB_4
        have F_5 := bthen F_4 b5
        have W_5 := N_5
        clear N_5
        have e5 := ackOk_any i0 s a2 a3 w5
        rw [HB.out] at e5
        refine (e5).mono ?_
        rintro e w6 ⟨rfl, b6⟩
        have K_6 := K_5.below b6
        clear K_5
        have G_6 := G_5.below b6
        clear G_5
        have R_6 := R_5.below b6
        clear R_5
        have O_6 := O_5.below b6
        clear O_5
        have W_6 := W_5.below b6
        clear W_5
        have RA_6 := RA_5.below b6
        clear RA_5
        have RB_6 := RB_5.below b6
        clear RB_5
        have F_6 := bthen F_5 b6
        clear e5
        have hk4 := HK4.out
        have hk5 : (k == 4) = true := by rw [hk4]; rfl
        have hap : ∀ a b, some A' = some a → some B' = some b → a.block ≠ b.block := fun a b ha hb => by injection ha with ha; injection hb with hb; subst ha; subst hb; exact hne
        have rKl := K_6.lt
        have rK0 := K_6.cell 0
        have rK1 := K_6.cell 1
        have rK2 := K_6.cell 2
        have rK3 := K_6.cell 3
        have rGl := G_6.lt
        have rG0 := G_6.cell 0
        have rG1 := G_6.cell 1
        have rG2 := G_6.cell 2
        have rG3 := G_6.cell 3
        have rOl := O_6.lt
        have rO0 := O_6.cell 0
        have rO1 := O_6.cell 1
        have rO2 := O_6.cell 2
        have rO3 := O_6.cell 3
        have rWl := W_6.lt
        have rW0 := W_6.cell 0
        have rW1 := W_6.cell 1
        have rW2 := W_6.cell 2
        have rW3 := W_6.cell 3
        have rW4 := W_6.cell 4
        have rW5 := W_6.cell 5
        have rW6 := W_6.cell 6
        have hz0 := F_0.size
        have hA : ∀ a, ((some A') : Option Addr) = some a → a.block ≠ w.heap.size + 1 + 1 := fun a ha => by have := RA_6.ge a ha; omega
        have hB : ∀ a, ((some B') : Option Addr) = some a → a.block ≠ w.heap.size + 1 + 1 := fun a ha => by have := RB_6.ge a ha; omega
        have hle : w.heap.size ≤ v0.heap.size := by omega
        have hF := F_6
        have HX := Lib.hid (And.intro hA (And.intro hB (And.intro hle hF)))
        clear hA hB hle hF
        have HPX := Lib.hid RA_6
        have HQX := Lib.hid RB_6
        have HAX := Lib.hid hap
        have rRl := R_6.lt
        have rR0 := R_6.cell 0
        have rR1 := R_6.cell 1
        have rR2 := R_6.cell 2
        have rR3 := R_6.cell 3
        obtain ⟨rRz0, rRz1, rRz2, rRz3⟩ := bf4 R_6
        go_wp2
        refine bodyPost_ret (v := .agg #[.int .i64 i0, .slice (some A') n c', .slice (some B') m d', .int .i64 t0]) (by simp [results, Tryz.results16, go_sem, *]) rfl ⟨_, _, _, _, rfl, ?_, ?_, HAX.out, ?_⟩
        · exact (four_sets HPX.out HX.out.1 _ _ _ _).mono HX.out.2.2.1
        · exact (four_sets HQX.out HX.out.2.1 _ _ _ _).mono HX.out.2.2.1
        · exact four_below HX.out.2.2.2 (Nat.le_succ_of_le (Nat.le_succ _)) _ _ _ _
      by_cases hx : t0 < a2
      rotate_left
      · skip
        rw [heardR_no hb (show ackFit i0 wl gl t0 i0 s a2 a3 = false by unfold ackFit; rw [decide_eq_false hx]; simp)]
        clear hb
        show Calls _ _ _ w (RetHeard w w.heap.size i0 t0 wl.length (WT wl) gl.length (GT gl))
        rw [hl, hr]
        have HK4 := Lib.hid hk4
        clear hk4
        have hx2 : a2 ≤ t0 := by omega
        clear hx
        go_enter Tryz.func16, Tryz.ntmps16
        go_wp2_with fail
        obtain ⟨v0, hv⟩ : ∃ x : World, x = (((w.alloc (.cells #[.int .i64 i0, .slice A n c, .slice B m d, .int .i64 t0] 35)).alloc (.cells #[.int .i64 i0, .int .i64 (s), .int .i64 a2, .int .i64 a3] 71)).alloc (.cells #[.int .i64 0, .slice none 0 0, .slice none 0 0, .int .i64 0] 35)) := ⟨_, rfl⟩
        rw [← hv]
        have F_0 : Below w.heap.size w v0 := by rw [hv]; (repeat' (first | (with_reducible exact Below.refl _ _) | (with_reducible assumption) | (with_reducible refine Below.alloc ?_ ?_ _) | (with_reducible refine Below.drew ?_) | (with_reducible refine Below.setCell ?_ ?_ _) | (with_reducible refine bstep (by assumption) ?_ ?_) | (with_reducible exact Nat.le_refl _) | omega | (simp [*]; done) | (simp [*]; omega)))
        have K_0 : Blk v0 w.heap.size 35 #[.int .i64 i0, .slice A n c, .slice B m d, .int .i64 t0] := by rw [hv]; exact ((Blk.new_at _ _ _ _ rfl).alloc _).alloc _
        have G_0 : Blk v0 (w.heap.size + 1) 71 #[.int .i64 i0, .int .i64 (s), .int .i64 a2, .int .i64 a3] := by rw [hv]; exact (Blk.new_at _ _ _ _ (by simp)).alloc _
        have R_0 : Blk v0 (w.heap.size + 1 + 1) 35 #[.int .i64 0, .slice none 0 0, .slice none 0 0, .int .i64 0] := by rw [hv]; exact Blk.new_at _ _ _ _ (by simp)
        clear hv
        have R_v0 := R_0.lt
        refine (C1.out v0 (HP.out v0 F_0) (HQ.out v0 F_0)).mono ?_
        rintro e w1 ⟨rfl, b1⟩
        have K_1 := K_0.below b1
        clear K_0
        have G_1 := G_0.below b1
        clear G_0
        have R_1 := R_0.below b1
        clear R_0
        have F_1 := bthen F_0 b1
        have rKl := K_1.lt
        have rK0 := K_1.cell 0
        have rK1 := K_1.cell 1
        have rK2 := K_1.cell 2
        have rK3 := K_1.cell 3
        go_wp2_with fail
        refine (copyClient_any A n c B m d i0 t0 (WT wl) (GT gl) w1 (HP.out w1 F_1) (HQ.out w1 F_1) (by omega) (by omega)).mono ?_
        rintro e w2 ⟨A', c', B', d', rfl, RA, RB, hne, b2⟩
        clear rKl rK0 rK1 rK2 rK3
        have K_2 := K_1.below b2
        clear K_1
        have G_2 := G_1.below b2
        clear G_1
        have R_2 := R_1.below b2
        clear R_1
        have F_2 := bthen F_1 b2
        have RA_2 := RA.mono (show v0.heap.size ≤ w1.heap.size from b1.size)
        have RB_2 := RB.mono (show v0.heap.size ≤ w1.heap.size from b1.size)
        clear RA RB
        have rKl := K_2.lt
        have rK0 := K_2.cell 0
        have rK1 := K_2.cell 1
        have rK2 := K_2.cell 2
        have rK3 := K_2.cell 3
        go_wp2_with fail
        refine calls_named ?_
        rintro w3 hw3
        clear rKl rK0 rK1 rK2 rK3
        have b3 : Below w2.heap.size w2 w3 := by rw [hw3]; exact (Below.refl _ _).alloc (Nat.le_refl _) _
        have N_3 : Blk w3 w2.heap.size 35 #[.int .i64 i0, .slice (some A') n c', .slice (some B') m d', .int .i64 t0] := by rw [hw3]; exact Blk.new_at _ _ _ _ rfl
        clear hw3
        have K_3 := K_2.below b3
        clear K_2
        have G_3 := G_2.below b3
        clear G_2
        have R_3 := R_2.below b3
        clear R_2
        have RA_3 := RA_2.below b3
        clear RA_2
        have RB_3 := RB_2.below b3
        clear RB_2
        have F_3 := bthen F_2 b3
        have O_3 := N_3
        clear N_3
        have c4 := pending_any A n c B m d i0 t0 wl gl w3 (HP.out w3 F_3) (HQ.out w3 F_3) hl hr hn hm HLE.out
        rw [HW.out, HS.out] at c4
        refine (c4).mono ?_
        rintro e w4 ⟨rfl, b4⟩
        have K_4 := K_3.below b4
        clear K_3
        have G_4 := G_3.below b4
        clear G_3
        have R_4 := R_3.below b4
        clear R_3
        have O_4 := O_3.below b4
        clear O_3
        have RA_4 := RA_3.below b4
        clear RA_3
        have RB_4 := RB_3.below b4
        clear RB_3
        have F_4 := bthen F_3 b4
        clear c4
        have rGl := G_4.lt
        have rG0 := G_4.cell 0
        have rG1 := G_4.cell 1
        have rG2 := G_4.cell 2
        have rG3 := G_4.cell 3
        go_wp2_with fail
        refine calls_named ?_
        rintro w5 hw5
        clear rGl rG0 rG1 rG2 rG3
        have b5 : Below w4.heap.size w4 w5 := by rw [hw5]; exact (Below.refl _ _).alloc (Nat.le_refl _) _
        have N_5 : Blk w5 w4.heap.size 32 #[.int .i64 k, .int .i64 o, .int .i64 p1, .int .i64 p2, .int .i64 p3, .int .i64 p4, .int .i64 p5] := by rw [hw5]; exact Blk.new_at _ _ _ _ rfl
        clear hw5
        have K_5 := K_4.below b5
        clear K_4
        have G_5 := G_4.below b5
        clear G_4
        have R_5 := R_4.below b5
        clear R_4
        have O_5 := O_4.below b5
        clear O_4
        have RA_5 := RA_4.below b5
        clear RA_4
        have RB_5 := RB_4.below b5
        clear RB_4
        have F_5 := bthen F_4 b5
        have W_5 := N_5
        clear N_5
        have e5 := ackOk_any i0 s a2 a3 w5
        rw [HB.out] at e5
        refine (e5).mono ?_
        rintro e w6 ⟨rfl, b6⟩
        have K_6 := K_5.below b6
        clear K_5
        have G_6 := G_5.below b6
        clear G_5
        have R_6 := R_5.below b6
        clear R_5
        have O_6 := O_5.below b6
        clear O_5
        have W_6 := W_5.below b6
        clear W_5
        have RA_6 := RA_5.below b6
        clear RA_5
        have RB_6 := RB_5.below b6
        clear RB_5
        have F_6 := bthen F_5 b6
        clear e5
        have hk4 := HK4.out
        have hk5 : (k == 4) = false := by rw [beqI]; exact decide_eq_false hk4
        have hap : ∀ a b, some A' = some a → some B' = some b → a.block ≠ b.block := fun a b ha hb => by injection ha with ha; injection hb with hb; subst ha; subst hb; exact hne
        have rKl := K_6.lt
        have rK0 := K_6.cell 0
        have rK1 := K_6.cell 1
        have rK2 := K_6.cell 2
        have rK3 := K_6.cell 3
        have rGl := G_6.lt
        have rG0 := G_6.cell 0
        have rG1 := G_6.cell 1
        have rG2 := G_6.cell 2
        have rG3 := G_6.cell 3
        have rOl := O_6.lt
        have rO0 := O_6.cell 0
        have rO1 := O_6.cell 1
        have rO2 := O_6.cell 2
        have rO3 := O_6.cell 3
        have rWl := W_6.lt
        have rW0 := W_6.cell 0
        have rW1 := W_6.cell 1
        have rW2 := W_6.cell 2
        have rW3 := W_6.cell 3
        have rW4 := W_6.cell 4
        have rW5 := W_6.cell 5
        have rW6 := W_6.cell 6
        have hz0 := F_0.size
        have hA : ∀ a, ((some A') : Option Addr) = some a → a.block ≠ w.heap.size + 1 + 1 := fun a ha => by have := RA_6.ge a ha; omega
        have hB : ∀ a, ((some B') : Option Addr) = some a → a.block ≠ w.heap.size + 1 + 1 := fun a ha => by have := RB_6.ge a ha; omega
        have hle : w.heap.size ≤ v0.heap.size := by omega
        have hF := F_6
        have HX := Lib.hid (And.intro hA (And.intro hB (And.intro hle hF)))
        clear hA hB hle hF
        have HPX := Lib.hid RA_6
        have HQX := Lib.hid RB_6
        have HAX := Lib.hid hap
        have rRl := R_6.lt
        have rR0 := R_6.cell 0
        have rR1 := R_6.cell 1
        have rR2 := R_6.cell 2
        have rR3 := R_6.cell 3
        obtain ⟨rRz0, rRz1, rRz2, rRz3⟩ := bf4 R_6
        go_wp2
        refine bodyPost_ret (v := .agg #[.int .i64 i0, .slice (some A') n c', .slice (some B') m d', .int .i64 t0]) (by simp [results, Tryz.results16, go_sem, *]) rfl ⟨_, _, _, _, rfl, ?_, ?_, HAX.out, ?_⟩
        · exact (four_sets HPX.out HX.out.1 _ _ _ _).mono HX.out.2.2.1
        · exact (four_sets HQX.out HX.out.2.1 _ _ _ _).mono HX.out.2.2.1
        · exact four_below HX.out.2.2.2 (Nat.le_succ_of_le (Nat.le_succ _)) _ _ _ _
      rw [heardR_yes hb (show ackFit i0 wl gl t0 i0 s a2 a3 = true by unfold ackFit; rw [hB, decide_eq_true rfl, hs1, decide_eq_true rfl, hkw, decide_eq_true hk4, decide_eq_true hx]; rfl)]
      clear hb
      rw [hs1]
      show Calls _ _ _ w (RetHeard w w.heap.size i0 a2 wl.length (WT wl) (gl ++ [(⟨s, a2, 0, 0⟩ : Gt)]).length (GT (gl ++ [⟨s, a2, 0, 0⟩])))
      rw [List.length_append, hl, hr]
      have HK4 := Lib.hid hk4
      clear hk4
      have hx2 : ¬ a2 ≤ t0 := by omega
      clear hx
      go_enter Tryz.func16, Tryz.ntmps16
      go_wp2_with fail
      obtain ⟨v0, hv⟩ : ∃ x : World, x = (((w.alloc (.cells #[.int .i64 i0, .slice A n c, .slice B m d, .int .i64 t0] 35)).alloc (.cells #[.int .i64 i0, .int .i64 (s), .int .i64 a2, .int .i64 a3] 71)).alloc (.cells #[.int .i64 0, .slice none 0 0, .slice none 0 0, .int .i64 0] 35)) := ⟨_, rfl⟩
      rw [← hv]
      have F_0 : Below w.heap.size w v0 := by rw [hv]; (repeat' (first | (with_reducible exact Below.refl _ _) | (with_reducible assumption) | (with_reducible refine Below.alloc ?_ ?_ _) | (with_reducible refine Below.drew ?_) | (with_reducible refine Below.setCell ?_ ?_ _) | (with_reducible refine bstep (by assumption) ?_ ?_) | (with_reducible exact Nat.le_refl _) | omega | (simp [*]; done) | (simp [*]; omega)))
      have K_0 : Blk v0 w.heap.size 35 #[.int .i64 i0, .slice A n c, .slice B m d, .int .i64 t0] := by rw [hv]; exact ((Blk.new_at _ _ _ _ rfl).alloc _).alloc _
      have G_0 : Blk v0 (w.heap.size + 1) 71 #[.int .i64 i0, .int .i64 (s), .int .i64 a2, .int .i64 a3] := by rw [hv]; exact (Blk.new_at _ _ _ _ (by simp)).alloc _
      have R_0 : Blk v0 (w.heap.size + 1 + 1) 35 #[.int .i64 0, .slice none 0 0, .slice none 0 0, .int .i64 0] := by rw [hv]; exact Blk.new_at _ _ _ _ (by simp)
      clear hv
      have R_v0 := R_0.lt
      refine (C1.out v0 (HP.out v0 F_0) (HQ.out v0 F_0)).mono ?_
      rintro e w1 ⟨rfl, b1⟩
      have K_1 := K_0.below b1
      clear K_0
      have G_1 := G_0.below b1
      clear G_0
      have R_1 := R_0.below b1
      clear R_0
      have F_1 := bthen F_0 b1
      have rKl := K_1.lt
      have rK0 := K_1.cell 0
      have rK1 := K_1.cell 1
      have rK2 := K_1.cell 2
      have rK3 := K_1.cell 3
      go_wp2_with fail
      refine (copyClient_any A n c B m d i0 t0 (WT wl) (GT gl) w1 (HP.out w1 F_1) (HQ.out w1 F_1) (by omega) (by omega)).mono ?_
      rintro e w2 ⟨A', c', B', d', rfl, RA, RB, hne, b2⟩
      clear rKl rK0 rK1 rK2 rK3
      have K_2 := K_1.below b2
      clear K_1
      have G_2 := G_1.below b2
      clear G_1
      have R_2 := R_1.below b2
      clear R_1
      have F_2 := bthen F_1 b2
      have RA_2 := RA.mono (show v0.heap.size ≤ w1.heap.size from b1.size)
      have RB_2 := RB.mono (show v0.heap.size ≤ w1.heap.size from b1.size)
      clear RA RB
      have rKl := K_2.lt
      have rK0 := K_2.cell 0
      have rK1 := K_2.cell 1
      have rK2 := K_2.cell 2
      have rK3 := K_2.cell 3
      go_wp2_with fail
      refine calls_named ?_
      rintro w3 hw3
      clear rKl rK0 rK1 rK2 rK3
      have b3 : Below w2.heap.size w2 w3 := by rw [hw3]; exact (Below.refl _ _).alloc (Nat.le_refl _) _
      have N_3 : Blk w3 w2.heap.size 35 #[.int .i64 i0, .slice (some A') n c', .slice (some B') m d', .int .i64 t0] := by rw [hw3]; exact Blk.new_at _ _ _ _ rfl
      clear hw3
      have K_3 := K_2.below b3
      clear K_2
      have G_3 := G_2.below b3
      clear G_2
      have R_3 := R_2.below b3
      clear R_2
      have RA_3 := RA_2.below b3
      clear RA_2
      have RB_3 := RB_2.below b3
      clear RB_2
      have F_3 := bthen F_2 b3
      have O_3 := N_3
      clear N_3
      have c4 := pending_any A n c B m d i0 t0 wl gl w3 (HP.out w3 F_3) (HQ.out w3 F_3) hl hr hn hm HLE.out
      rw [HW.out, HS.out] at c4
      refine (c4).mono ?_
      rintro e w4 ⟨rfl, b4⟩
      have K_4 := K_3.below b4
      clear K_3
      have G_4 := G_3.below b4
      clear G_3
      have R_4 := R_3.below b4
      clear R_3
      have O_4 := O_3.below b4
      clear O_3
      have RA_4 := RA_3.below b4
      clear RA_3
      have RB_4 := RB_3.below b4
      clear RB_3
      have F_4 := bthen F_3 b4
      clear c4
      have rGl := G_4.lt
      have rG0 := G_4.cell 0
      have rG1 := G_4.cell 1
      have rG2 := G_4.cell 2
      have rG3 := G_4.cell 3
      go_wp2_with fail
      refine calls_named ?_
      rintro w5 hw5
      clear rGl rG0 rG1 rG2 rG3
      have b5 : Below w4.heap.size w4 w5 := by rw [hw5]; exact (Below.refl _ _).alloc (Nat.le_refl _) _
      have N_5 : Blk w5 w4.heap.size 32 #[.int .i64 k, .int .i64 o, .int .i64 p1, .int .i64 p2, .int .i64 p3, .int .i64 p4, .int .i64 p5] := by rw [hw5]; exact Blk.new_at _ _ _ _ rfl
      clear hw5
      have K_5 := K_4.below b5
      clear K_4
      have G_5 := G_4.below b5
      clear G_4
      have R_5 := R_4.below b5
      clear R_4
      have O_5 := O_4.below b5
      clear O_4
      have RA_5 := RA_4.below b5
      clear RA_4
      have RB_5 := RB_4.below b5
      clear RB_4
      have F_5 := bthen F_4 b5
      have W_5 := N_5
      clear N_5
      have e5 := ackOk_any i0 s a2 a3 w5
      rw [HB.out] at e5
      refine (e5).mono ?_
      rintro e w6 ⟨rfl, b6⟩
      have K_6 := K_5.below b6
      clear K_5
      have G_6 := G_5.below b6
      clear G_5
      have R_6 := R_5.below b6
      clear R_5
      have O_6 := O_5.below b6
      clear O_5
      have W_6 := W_5.below b6
      clear W_5
      have RA_6 := RA_5.below b6
      clear RA_5
      have RB_6 := RB_5.below b6
      clear RB_5
      have F_6 := bthen F_5 b6
      clear e5
      have hk4 := HK4.out
      have hk5 : (k == 4) = false := by rw [beqI]; exact decide_eq_false hk4
      have hap : ∀ a b, some A' = some a → some B' = some b → a.block ≠ b.block := fun a b ha hb => by injection ha with ha; injection hb with hb; subst ha; subst hb; exact hne
      have hv6 : v0.heap.size ≤ w6.heap.size := Nat.le_trans b1.size (Nat.le_trans b2.size (Nat.le_trans b3.size (Nat.le_trans b4.size (Nat.le_trans b5.size b6.size))))
      have c7 := answered_any v0.heap.size (some A') n c' (some B') m d' i0 t0 s a2 0 0 (WT wl) (GT gl) w6 RA_6 RB_6 hap hv6 (by omega)
      clear hap
      have rKl := K_6.lt
      have rK0 := K_6.cell 0
      have rK1 := K_6.cell 1
      have rK2 := K_6.cell 2
      have rK3 := K_6.cell 3
      have rGl := G_6.lt
      have rG0 := G_6.cell 0
      have rG1 := G_6.cell 1
      have rG2 := G_6.cell 2
      have rG3 := G_6.cell 3
      have rOl := O_6.lt
      have rO0 := O_6.cell 0
      have rO1 := O_6.cell 1
      have rO2 := O_6.cell 2
      have rO3 := O_6.cell 3
      have rWl := W_6.lt
      have rW0 := W_6.cell 0
      have rW1 := W_6.cell 1
      have rW2 := W_6.cell 2
      have rW3 := W_6.cell 3
      have rW4 := W_6.cell 4
      have rW5 := W_6.cell 5
      have rW6 := W_6.cell 6
      go_wp2_with fail
      refine c7.mono ?_
      rintro e w7 ⟨A5, c5, B5, d5, rfl, RA7, RB7, hap, b7⟩
      clear rKl rK0 rK1 rK2 rK3
      clear rGl rG0 rG1 rG2 rG3
      clear rOl rO0 rO1 rO2 rO3
      clear rWl rW0 rW1 rW2 rW3 rW4 rW5 rW6
      have R_7 : Blk w7 (w.heap.size + 1 + 1) 35 #[.int .i64 0, .slice none 0 0, .slice none 0 0, .int .i64 0] := (b7.block _ R_v0).trans R_6
      have F_7 : Below w.heap.size w w7 := ⟨b7.os.trans F_6.os, b7.tape.trans F_6.tape, b7.output.trans F_6.output, Nat.le_trans F_6.size b7.size, fun k hk => (b7.block k (Nat.lt_of_lt_of_le hk F_0.size)).trans (F_6.block k hk)⟩
      clear K_6 G_6 O_6 W_6 R_6 c7
      rw [show GT gl ++ [s, a2, 0, 0] = GT (gl ++ [⟨s, a2, 0, 0⟩]) by rw [GT_append]; rfl] at RB7
      have hz0 := F_0.size
      have hA : ∀ a, (A5 : Option Addr) = some a → a.block ≠ w.heap.size + 1 + 1 := fun a ha => by have := RA7.ge a ha; omega
      have hB : ∀ a, (B5 : Option Addr) = some a → a.block ≠ w.heap.size + 1 + 1 := fun a ha => by have := RB7.ge a ha; omega
      have hle : w.heap.size ≤ v0.heap.size := by omega
      have hF := F_7
      have HX := Lib.hid (And.intro hA (And.intro hB (And.intro hle hF)))
      clear hA hB hle hF
      have HPX := Lib.hid RA7
      have HQX := Lib.hid RB7
      have HAX := Lib.hid hap
      have rRl := R_7.lt
      have rR0 := R_7.cell 0
      have rR1 := R_7.cell 1
      have rR2 := R_7.cell 2
      have rR3 := R_7.cell 3
      obtain ⟨rRz0, rRz1, rRz2, rRz3⟩ := bf4 R_7
      go_wp2
      refine bodyPost_ret (v := .agg #[.int .i64 i0, .slice A5 n c5, .slice B5 (m + 1) d5, .int .i64 a2]) (by simp [results, Tryz.results16, go_sem, *]) rfl ⟨_, _, _, _, rfl, ?_, ?_, HAX.out, ?_⟩
      · exact (four_sets HPX.out HX.out.1 _ _ _ _).mono HX.out.2.2.1
      · exact (four_sets HQX.out HX.out.2.1 _ _ _ _).mono HX.out.2.2.1
      · exact four_below HX.out.2.2.2 (Nat.le_succ_of_le (Nat.le_succ _)) _ _ _ _
end Go.Proofs.YtbheflinchabgaaGreatDoor
namespace Go.Proofs.YtbheflinchabgaaGreatDoor
set_option linter.unusedSimpArgs false
set_option linter.unusedVariables false
attribute [local go_sem] n_lt2 n_lt3 n_lt4 n_le2 n_le3
open Go.RowKit

theorem wp_region_tail {P : Program} {id : Nat} {Q : Exit → Act → World → Prop} {a : Act} {w : World} {l : List Oper} (n : Nat) (hm : P.follows .mixedOrders = true) (hB : Region.lexTailB .any l.toArray n = true)
    (h : ∀ w', w' = w.drewN 1 → wpStill P l.toArray w' (fun a' => wpList P l.toArray Q (l.drop n) a' w') (l.take n) a) : (Code.region id l.toArray true).wp P Q a w :=
  wp_region_still_tail n hm hB (h _ rfl)
end Go.Proofs.YtbheflinchabgaaGreatDoor
namespace Go.Proofs.YtbheflinchabgaaGreatDoor
set_option linter.unusedSimpArgs false
set_option linter.unusedVariables false
attribute [local go_sem] n_lt2 n_lt3 n_lt4 n_le2 n_le3
open Go.RowKit
attribute [local go_sem] Ext.cell Ext.frozen


theorem info_Int64 : (Tryz.prog.info? 2).map (fun i => (i.zero, i.size, i.bytes)) = some (some (.int .i64 0), 1, 8) := by kernel_rfl




end Go.Proofs.YtbheflinchabgaaGreatDoor
namespace Go.Proofs.YtbheflinchabgaaGreatDoor
set_option linter.unusedSimpArgs false
set_option linter.unusedVariables false
attribute [local go_sem] n_lt2 n_lt3 n_lt4 n_le2 n_le3
open Go.RowKit
attribute [local go_sem] Ext.cell Ext.frozen

/-- Block p is a cursor that holds the row zs. -/
def Cur (w : World) (lo p E C : Nat) (n : Nat) (zs : List Int) : Prop :=
  ∃ A cap, Blk w p C #[.slice A n cap, .int .i64 0] ∧ Row w lo E 1 A n cap zs ∧ (∀ a, A = some a → a.block ≠ p) ∧ lo ≤ p
theorem Cur.alloc {w : World} {lo p E C n : Nat} {zs : List Int} (h : Cur w lo p E C n zs) (o : Obj) : Cur (w.alloc o) lo p E C n zs := by
  obtain ⟨A, cap, K, R, hne, hlo⟩ := h
  exact ⟨A, cap, K.alloc o, World.ownsRow.alloc R o, hne, hlo⟩
theorem Cur.lt {w : World} {lo p E C n : Nat} {zs : List Int} (h : Cur w lo p E C n zs) : p < w.heap.size := by
  obtain ⟨A, cap, K, _⟩ := h
  exact K.lt
end Go.Proofs.YtbheflinchabgaaGreatDoor
namespace Go.Proofs.YtbheflinchabgaaGreatDoor
set_option linter.unusedSimpArgs false
set_option linter.unusedVariables false
attribute [local go_sem] n_lt2 n_lt3 n_lt4 n_le2 n_le3
open Go.RowKit

structure Pr where
  k : Int
  v : Int
instance : Inhabited Pr := ⟨⟨0, 0⟩⟩
/-- A pair list, its numbers one behind the other. -/
def PR (l : List Pr) : List Int := l.flatMap fun p => [p.k, p.v]
attribute [local go_sem] Ext.cell Ext.frozen

end Go.Proofs.YtbheflinchabgaaGreatDoor
namespace Go.Proofs.YtbheflinchabgaaGreatDoor
set_option linter.unusedSimpArgs false
set_option linter.unusedVariables false
attribute [local go_sem] n_lt2 n_lt3 n_lt4 n_le2 n_le3
open Go.RowKit

attribute [local go_sem] Ext.cell Ext.frozen

end Go.Proofs.YtbheflinchabgaaGreatDoor
namespace Go.Proofs.YtbheflinchabgaaGreatDoor
set_option linter.unusedSimpArgs false
set_option linter.unusedVariables false
attribute [local go_sem] n_lt2 n_lt3 n_lt4 n_le2 n_le3
open Go.RowKit
attribute [local go_sem] Ext.cell Ext.frozen

end Go.Proofs.YtbheflinchabgaaGreatDoor
namespace Go.Proofs.YtbheflinchabgaaGreatDoor
set_option linter.unusedSimpArgs false
set_option linter.unusedVariables false
attribute [local go_sem] n_lt2 n_lt3 n_lt4 n_le2 n_le3
open Go.RowKit
attribute [local go_sem] Ext.cell Ext.frozen






end Go.Proofs.YtbheflinchabgaaGreatDoor
namespace Go.Proofs.YtbheflinchabgaaGreatDoor
set_option linter.unusedSimpArgs false
set_option linter.unusedVariables false
attribute [local go_sem] n_lt2 n_lt3 n_lt4 n_le2 n_le3
open Go.RowKit

def RetRowB (w : World) (E s n : Nat) (zs : List Int) (b : Bool) (e : Ending) (w' : World) : Prop := ∃ A cap, e = .returned (.tuple #[.slice A n cap, .bool b]) ∧ Row w' w.heap.size E s A n cap zs ∧ Below w.heap.size w w'
theorem row0p {w : World} {g lo : Nat} {E : TypeId} {s : Nat} (h : Blk w g E #[]) (hlo : lo ≤ g) : Row w lo E s (some ⟨g, 0, none⟩) 0 0 [] :=
  h.row hlo (by simp [maxLen]) (by simp) (by simp) (fun j hj => absurd hj (by omega))
theorem sl_news {w : World} {A : Option Addr} {n s : Nat} {zs : List Int} {ad : Addr} (h : Sl w s A n zs) (hA : A = some ad) : ∀ j u, (ints zs)[j]? = some u → w.cell? (ad.add j) = some u := fun j u hu => by
  have hj : j < zs.length := by
    rcases Nat.lt_or_ge j zs.length with h1 | h1
    · exact h1
    · rw [List.getElem?_eq_none (by rw [ints_length]; exact h1)] at hu
      cases hu
  have hlen := h.len
  have hn : 0 < n := by
    rcases Nat.eq_zero_or_pos n with h0 | h0
    · subst h0; omega
    · exact h0
  obtain ⟨b, off, hb, _, hc⟩ := h.at_ hn
  rw [hA] at hb
  obtain rfl := Option.some.inj hb
  have hadd : (⟨b, off, none⟩ : Addr).add j = ⟨b, off + j, none⟩ := by unfold Addr.add; split <;> simp_all
  rw [hadd, hc j (by omega), ← hu]
  exact (ints_get zs j hj).symm
attribute [local go_sem] Ext.cell Ext.frozen

end Go.Proofs.YtbheflinchabgaaGreatDoor
namespace Go.Proofs.YtbheflinchabgaaGreatDoor
set_option linter.unusedSimpArgs false
set_option linter.unusedVariables false
attribute [local go_sem] n_lt2 n_lt3 n_lt4 n_le2 n_le3
open Go.RowKit
attribute [local go_sem] Ext.cell Ext.frozen

/-- Block p is a cursor over the slice A, n, cap, at place at. -/
def RCur (w : World) (p C : Nat) (A : Option Addr) (n cap at_ : Nat) : Prop := Blk w p C #[.slice A n cap, .int .i64 (at_ : Nat)]
theorem RCur.blk {w : World} {p C : Nat} {A : Option Addr} {n cap at_ : Nat} (h : RCur w p C A n cap at_) : Blk w p C #[.slice A n cap, .int .i64 (at_ : Nat)] := h
theorem wrote_drewN {w w' : World} {A : Option Addr} (h : Wrote w w' A) (k : Nat) : Wrote w (w'.drewN k) A := ⟨h.os, h.tape, h.output, h.size, h.block⟩
theorem wrote_refl (w : World) (A : Option Addr) : Wrote w w A := World.grownBy.refl _ _
theorem wrote_below {w w' : World} (h : Below w.heap.size w w') (A : Option Addr) : Wrote w w' A := ⟨h.os, h.tape, h.output, h.size, fun i hi _ => h.block i hi⟩
theorem wrote_trans {w a b : World} {p : Nat} (h : Wrote w a (some ⟨p, 0, none⟩)) (hb : Wrote a b (some ⟨p, 0, none⟩)) : Wrote w b (some ⟨p, 0, none⟩) :=
  ⟨hb.os.trans h.os, hb.tape.trans h.tape, hb.output.trans h.output, Nat.le_trans h.size hb.size, fun i hi hn => (hb.block i (Nat.lt_of_lt_of_le hi h.size) hn).trans (h.block i hi hn)⟩
theorem wrote_setp {w w' : World} {p : Nat} (h : Wrote w w' (some ⟨p, 0, none⟩)) (o : Nat) (u : Value) : Wrote w (w'.setCell ⟨p, o, none⟩ u) (some ⟨p, 0, none⟩) := wrote_set (p := ⟨p, o, none⟩) h rfl u

set_option maxRecDepth 100000 in
set_option maxHeartbeats 800000 in
theorem copyRow_any (A : Option Addr) (n cap : Nat) (zs : List Int) (w : World) (hS : Sl w 1 A n zs) (hn : n ≤ 1048576) (hA : A = none → n = 0 ∧ cap = 0) :
    Calls Tryz.prog 126 #[.slice A n cap] w (RetRow w 2 1 n zs) := by
  have R0 : Row (w.alloc (.cells #[] 2)) w.heap.size 2 1 (some ⟨w.heap.size, 0, none⟩) 0 0 [] := row0p (Blk.new w _ _) (Nat.le_refl _)
  have hnw := fun ad (h : A = some ad) => sl_news (hS.below ((Below.refl w.heap.size w).alloc (Nat.le_refl _) (.cells #[] 2))) h
  have hPl : zs.length = n * 1 := hS.len
  cases A with
  | none =>
    obtain ⟨rfl, rfl⟩ := hA rfl
    have hz : zs = [] := List.eq_nil_of_length_eq_zero (by omega)
    rw [hz]
    obtain ⟨i0, hi0, hz0, hs0, hy0⟩ := info_parts info_Int64
    clear hnw hS hA hPl
    go_enter Tryz.func126, Tryz.ntmps126
    go_wp2_with (at_builtin; refine wpList_append_own_none rfl _ _ 59 rfl w.heap.size 2 i0 1 Tryz.underlying59 hi0 (.slice (some ⟨w.heap.size, 0, none⟩) 0 0) 0 [] rfl R0 rfl ?_)
    go_ret
    exact RetRow.mk R0 (by (repeat' (first | (with_reducible exact Below.refl _ _) | (with_reducible assumption) | (with_reducible refine Below.alloc ?_ ?_ _) | (with_reducible refine Below.drew ?_) | (with_reducible refine Below.setCell ?_ ?_ _) | (with_reducible refine bstep (by assumption) ?_ ?_) | (with_reducible exact Nat.le_refl _) | omega | (simp [*]; done) | (simp [*]; omega))))
  | some ad =>
    have hnw' := Lib.hid (hnw ad rfl)
    clear hnw hS hA
    go_enter Tryz.func126, Tryz.ntmps126
    go_wp2_with (at_builtin; refine wpList_append_row rfl _ _ 59 rfl 2 (.int .i64 0) 1 8 Tryz.underlying59 info_Int64 (by first | kernel_rfl | simp [Value.cells]) (by decide) w.heap.size (some ⟨w.heap.size, 0, none⟩) 0 0 [] rfl R0 ad n cap zs rfl hPl hnw'.out (by unfold maxLen; omega) (by omega) (by simp) ?_; intro A5 c5 w5 R5 B5)
    go_ret
    simp only [Nat.zero_add, List.nil_append] at R5 ⊢
    exact RetRow.mk R5 (((Below.refl w.heap.size w).alloc (Nat.le_refl _) _).trans B5)
end Go.Proofs.YtbheflinchabgaaGreatDoor
namespace Go.Proofs.YtbheflinchabgaaGreatDoor
set_option linter.unusedSimpArgs false
set_option linter.unusedVariables false
attribute [local go_sem] n_lt2 n_lt3 n_lt4 n_le2 n_le3
open Go.RowKit Go.ChangeShapes Go.WideShapes Go.ChangeAt Go.Deep

/-- The slice value '.slice A n _' reads as the bytes bs. -/
def SlB (w : World) (A : Option Addr) (n : Nat) (bs : List Int) : Prop :=
  bs.length = n ∧ (∀ x ∈ bs, 0 ≤ x ∧ x < 256) ∧ (0 < n → ∃ b off, A = some ⟨b, off, none⟩ ∧ b < w.heap.size ∧ ∀ j, j < n → w.cell? ⟨b, off + j, none⟩ = some (.int .u8 (bs.getD j 0)))
theorem SlB.below {w w' : World} {A : Option Addr} {n : Nat} {bs : List Int} (h : SlB w A n bs) (hb : Below w.heap.size w w') : SlB w' A n bs :=
  ⟨h.1, h.2.1, fun hn => by
    obtain ⟨b, off, rfl, hbl, hj⟩ := h.2.2 hn
    exact ⟨b, off, rfl, Nat.lt_of_lt_of_le hbl hb.size, fun j hjn => (hb.cell hbl).trans (hj j hjn)⟩⟩
theorem SlB.range {w : World} {A : Option Addr} {n : Nat} {bs : List Int} (h : SlB w A n bs) (j : Nat) : 0 ≤ bs.getD j 0 ∧ bs.getD j 0 < 256 := by
  by_cases hj : j < bs.length
  · have := h.2.1 _ (List.getElem_mem hj)
    simpa [List.getD, hj] using this
  · simp [List.getD, List.getElem?_eq_none (by omega : bs.length ≤ j)]
section
variable {H : Type} {enc : TypeId × Value → H} {P : Program} {w : World} {base : Nat} {spare : Nat → Bool} {held : Bool}
/-- An argument of bytes. -/
theorem open_bytes {r : Reach} {b0 : Nat} {t e : TypeId} {v : Value} {d : DataW H} {p : List MemPlace} (ht : P.underlying t = some (.slice e)) (he : P.underlying e = some (.int .u8)) (hs : P.cellsOf e = 1)
    (hv : Value.okWide P w r b0 t v) (h : DataW.Trod enc P w base spare held t v d p) : ∃ A n cap bs, v = .slice A n cap ∧ SlB w A n bs ∧ n ≤ cap ∧ cap ≤ maxLen := by
  obtain ⟨a, len, cap, rfl⟩ := okWide_slice ht hv
  obtain ⟨fuel, hf⟩ := h
  rcases open_ints ht he hs hf with ⟨h1, _⟩ | ⟨a', len', cap', zs, h1, _, hl, hm, hzl, _, hcell, hwf⟩
  · have e : Value.slice a len cap = .slice none 0 0 := by simpa [Value.cells] using h1
    exact ⟨none, 0, 0, [], e, ⟨rfl, by simp, fun h => absurd h (by omega)⟩, Nat.le_refl _, by simp⟩
  · have e : Value.slice a len cap = .slice (some a') len' cap' := by simpa [Value.cells] using h1
    have hle : len' ≤ zs.length := by rw [hzl]; split <;> omega
    obtain ⟨b, off, spot⟩ := a'
    have hbs : (zs.take len').length = len' := by simp; omega
    have hc : ∀ j, j < len' → w.cell? ((⟨b, off, spot⟩ : Addr).add j) = some (.int .u8 ((zs.take len').getD j 0)) := fun j hj => by
      rw [hcell j (by omega)]
      simp [List.getD, List.getElem?_take, hj]
    by_cases hn : len' = 0
    · subst hn
      exact ⟨_, 0, cap', [], e, ⟨rfl, by simp, fun h => absurd h (by omega)⟩, hl, hm⟩
    · have h0 := hc 0 (by omega)
      have hspot : spot = none := by simpa [Addr.add] using World.cell?_spot h0
      subst hspot
      have hblk : b < w.heap.size := by
        rw [Go.WideShapes.add_plain] at h0
        exact World.block_lt_of_cell? w ⟨b, off + 0, none⟩ h0
      refine ⟨some ⟨b, off, none⟩, len', cap', zs.take len', e, ⟨hbs, fun x hx => ?_, fun _ => ⟨b, off, rfl, hblk, fun j hj => by rw [← Go.WideShapes.add_plain]; exact hc j hj⟩⟩, hl, hm⟩
      have := hwf x (List.mem_of_mem_take hx)
      simp [Lit.wf, IntKind.min, IntKind.max, IntKind.signed, IntKind.bits] at this
      omega
end
attribute [local go_sem] Ext.cell Ext.frozen

/-- Block p is a dice over the bytes. -/
def Dice (w : World) (p D : Nat) (A : Option Addr) (n cap : Nat) : Prop := ∃ (i : Nat) (h : Int), i ≤ n ∧ Blk w p D #[.slice A n cap, .int .i64 (i : Nat), .int .u64 h]
theorem u64_lt (x : Int) : IntKind.u64.wrap x < 18446744073709551616 := by rw [IntKind.wrap_u64]; omega
theorem dice_range (h : Int) (h0 : 0 ≤ h) (h1 : h < 18446744073709551616) : 0 ≤ wrap64 (bits BinOp.and IntKind.u64 (h / 8589934592) 16777215) ∧ wrap64 (bits BinOp.and IntKind.u64 (h / 8589934592) 16777215) ≤ 16777215 := by
  rw [u64_and (h / 8589934592) 16777215 (by omega) (by omega) (by omega) (by omega)]
  have hle : ((h / 8589934592).toNat &&& (16777215 : Int).toNat) ≤ 16777215 := Nat.and_le_right
  unfold wrap64
  omega
set_option maxRecDepth 100000 in
set_option maxHeartbeats 1600000 in
theorem below_dice (p n cap : Nat) (A : Option Addr) (bs : List Int) (m : Int) (w : World) (hD : Dice w p 80 A n cap) (hS : SlB w A n bs) (hn : n ≤ maxLen) (hm : 0 < m) (hp : 0 < n → ∀ a, A = some a → a.block ≠ p) :
    Calls Tryz.prog 6 #[.pointer (some ⟨p, 0, none⟩), .int .i64 m] w fun e w' => ∃ x, e = .returned (.int .i64 x) ∧ 0 ≤ x ∧ x < m ∧ Dice w' p 80 A n cap ∧ Wrote w w' (some ⟨p, 0, none⟩) := by
  obtain ⟨i, h, hi, K⟩ := hD
  obtain ⟨q0, q1, q2⟩ := bc3 K
  have qf1 := K.frozen 1
  have qf2 := K.frozen 2
  have HK := Lib.hid K
  unfold maxLen at hn
  clear K
  have hx := dice_range (IntKind.u64.wrap (IntKind.u64.wrap (h * 6364136223846793005) + 1442695040888963407)) (wrap_u64_nonneg _) (u64_lt _)
  by_cases hin : i < n
  · obtain ⟨b, off, rfl, hb, hcell⟩ := hS.2.2 (by omega)
    have hc := hcell i hin
    have hr := hS.range i
    have hbp : b ≠ p := hp (by omega) _ rfl
    have hbp' : p ≠ b := Ne.symm hbp
    generalize bs.getD i 0 = y at hc hr
    obtain ⟨hy0, hy1⟩ := hr
    clear hcell
    have hi' : (i : Int) < (n : Int) := by omega
    have hdi : decide ((i : Int) < (n : Int)) = true := decide_eq_true hi'
    go_enter Tryz.func6, Tryz.ntmps6
    go_wp2
    generalize hgx : wrap64 (bits BinOp.and IntKind.u64 (IntKind.u64.wrap (IntKind.u64.wrap (h * 6364136223846793005) + 1442695040888963407) / 8589934592) 16777215) = x at hx
    generalize (bits BinOp.and IntKind.u64 (IntKind.u64.wrap (IntKind.u64.wrap (h * 6364136223846793005) + 1442695040888963407) / 8589934592) 16777215) = x1
    generalize (IntKind.u64.wrap (IntKind.u64.wrap (h * 6364136223846793005) + 1442695040888963407) / 8589934592) = x2
    generalize IntKind.u64.wrap (IntKind.u64.wrap (h * 6364136223846793005) + 1442695040888963407) = h2
    generalize IntKind.u64.wrap (h * 6364136223846793005) = h3
    clear hgx
    obtain ⟨hx0, hx1⟩ := hx
    have hw1 : IntKind.i64.wrap (x + y) = x + y := by simp [IntKind.wrap, IntKind.bits, IntKind.signed]; omega
    have hw2 : IntKind.i64.wrap y = y := by simp [IntKind.wrap, IntKind.bits, IntKind.signed]; omega
    go_quiet (fail)
    go_wp2
    go_quiet (fail)
    go_wp2
    go_ret
    refine ⟨(x + y) % m, rfl, Int.emod_nonneg _ (by omega), Int.emod_lt_of_pos _ hm, ⟨i + 1, h2, by omega, ?_⟩, ?_⟩
    · exact Blk.set_ (Blk.set_ HK.out 2 (.int .u64 h2)) 1 (.int .i64 ((i : Int) + 1))
    · exact wrote_setp (wrote_drewN (wrote_setp (wrote_refl _ _) _ _) _) _ _
  · have hi' : ¬ (i : Int) < (n : Int) := by omega
    have hdi : decide ((i : Int) < (n : Int)) = false := decide_eq_false hi'
    go_enter Tryz.func6, Tryz.ntmps6
    go_wp2
    generalize hgx : wrap64 (bits BinOp.and IntKind.u64 (IntKind.u64.wrap (IntKind.u64.wrap (h * 6364136223846793005) + 1442695040888963407) / 8589934592) 16777215) = x at hx
    generalize (bits BinOp.and IntKind.u64 (IntKind.u64.wrap (IntKind.u64.wrap (h * 6364136223846793005) + 1442695040888963407) / 8589934592) 16777215) = x1
    generalize (IntKind.u64.wrap (IntKind.u64.wrap (h * 6364136223846793005) + 1442695040888963407) / 8589934592) = x2
    generalize IntKind.u64.wrap (IntKind.u64.wrap (h * 6364136223846793005) + 1442695040888963407) = h2
    generalize IntKind.u64.wrap (h * 6364136223846793005) = h3
    clear hgx
    obtain ⟨hx0, hx1⟩ := hx
    go_quiet (fail)
    go_wp2
    go_ret
    refine ⟨x % m, rfl, Int.emod_nonneg _ (by omega), Int.emod_lt_of_pos _ hm, ⟨i, h2, by omega, ?_⟩, ?_⟩
    · exact Blk.set_ HK.out 2 (.int .u64 h2)
    · exact wrote_drewN (wrote_setp (wrote_refl _ _) _ _) _
theorem big_any (A : Option Addr) (n cap : Nat) (w : World) (hn : n ≤ maxLen) :
    Calls Tryz.prog 4 #[.slice A n cap] w fun e w' => e = .returned (.bool (decide (4096 < n))) ∧ w = w' := by
  unfold maxLen at hn
  go_enter Tryz.func4, Tryz.ntmps4
  go_wp2
  go_ret
  exact ⟨ret_bool (by by_cases h : 4096 < n <;> simp [h] <;> omega), rfl⟩
set_option maxRecDepth 100000 in
set_option maxHeartbeats 1600000 in
theorem roll_any (A : Option Addr) (n cap : Nat) (bs : List Int) (seed : Int) (w : World) (hS : SlB w A n bs) (hn : n ≤ 4096) (hs : 0 ≤ seed ∧ seed ≤ 100000) :
    Calls Tryz.prog 5 #[.slice A n cap, .int .u64 seed] w fun e w' => e = .returned (.pointer (some ⟨w.heap.size, 0, none⟩)) ∧ Dice w' w.heap.size 80 A n cap ∧ Below w.heap.size w w' := by
  obtain ⟨hs0, hs1⟩ := hs
  have HS := Lib.hid hS
  clear hS
  go_enter Tryz.func5, Tryz.ntmps5
  go_wp2
  go_loopw [6] (fun i wr => ∃ (k : Nat) (h : Int), k ≤ n ∧ i = .int .i64 (k : Nat) ∧ Blk wr w.heap.size 80 #[.slice A n cap, .int .i64 0, .int .u64 h] ∧ Below w.heap.size w wr) (fun i _ => n - (intOf i).toNat)
  case atStart => exact ⟨0, _, Nat.zero_le _, rfl, Blk.new _ _ _, (Below.refl _ _).alloc (Nat.le_refl _) _⟩
  case round =>
    obtain ⟨k, h, hk, rfl, K, hbl⟩ := hrel
    by_cases hlt : k < n
    · obtain ⟨b, off, rfl, hb, hcell⟩ := HS.out.2.2 (by omega)
      have hc := hcell k hlt
      have hr := HS.out.range k
      generalize bs.getD k 0 = y at hc hr
      obtain ⟨hy0, hy1⟩ := hr
      rw [← hbl.cell (by exact hb)] at hc
      clear hcell
      have hlt' : (k : Int) < (n : Int) := by omega
      have q0 : wr.cell? ⟨w.heap.size, 0, none⟩ = some (.slice (some ⟨b, off, none⟩) n cap) := K.cell 0
      have q2 : wr.cell? ⟨w.heap.size, 2, none⟩ = some (.int .u64 h) := K.cell 2
      have qf2 := K.frozen 2
      have HK := Lib.hid K
      have hbp : b ≠ w.heap.size := by omega
      have hbp' : w.heap.size ≠ b := by omega
      clear K
      go_wp2
      refine wp_region_tail 15 (by kernel_rfl) (by kernel_rfl) ?_
      intro wt hwt
      have K2 : Blk wt w.heap.size 80 #[.slice (some ⟨b, off, none⟩) n cap, .int .i64 0, .int .u64 h] := by rw [hwt]; exact HK.out
      have b2 : Below w.heap.size w wt := by rw [hwt]; exact below_drewN hbl _
      have hc2 : wt.cell? ⟨b, off + k, none⟩ = some (.int .u8 y) := by rw [hwt]; exact hc
      clear hwt q0 q2 qf2 hc
      have q0 : wt.cell? ⟨w.heap.size, 0, none⟩ = some (.slice (some ⟨b, off, none⟩) n cap) := K2.cell 0
      have q2 : wt.cell? ⟨w.heap.size, 2, none⟩ = some (.int .u64 h) := K2.cell 2
      have qf2 := K2.frozen 2
      have HK2 := Lib.hid K2
      clear K2
      simp only [List.take_succ_cons, List.take_zero, List.drop_succ_cons, List.drop_zero]
      repeat still_step
      refine wpStill_nil ?_
      go_wp2
      refine ⟨⟨k + 1, _, by omega, by go_num, HK2.out.set_ 2 _, b2.setCell (Nat.le_refl _) _⟩, by simp [intOf]; omega⟩
    · go_wp2
      go_ret
      exact ⟨rfl, ⟨0, h, Nat.zero_le _, K⟩, hbl⟩
theorem wrote_grow {w a b : World} {p lo : Nat} (h : Wrote w a (some ⟨p, 0, none⟩)) (hb : Below lo a b) (hlo : w.heap.size ≤ lo) : Wrote w b (some ⟨p, 0, none⟩) :=
  ⟨hb.os.trans h.os, hb.tape.trans h.tape, hb.output.trans h.output, Nat.le_trans h.size hb.size, fun i hi hn => (hb.block i (Nat.lt_of_lt_of_le hi hlo)).trans (h.block i hi hn)⟩
theorem SlB.keep {w w' : World} {A : Option Addr} {n : Nat} {bs : List Int} (h : SlB w A n bs) (hs : w.heap.size ≤ w'.heap.size) (hk : 0 < n → ∀ a, A = some a → w'.heap[a.block]? = w.heap[a.block]?) : SlB w' A n bs :=
  ⟨h.1, h.2.1, fun hn => by
    obtain ⟨b, off, rfl, hbl, hj⟩ := h.2.2 hn
    exact ⟨b, off, rfl, Nat.lt_of_lt_of_le hbl hs, fun j hjn => (World.cell?_of_block (a := ⟨b, off + j, none⟩) (hk hn ⟨b, off, none⟩ rfl)).trans (hj j hjn)⟩⟩

/-- Block p is a dice over bytes that lie ahead of it. -/
def DC (w : World) (p D : Nat) : Prop := ∃ (A : Option Addr) (n cap : Nat) (bs : List Int), n ≤ maxLen ∧ SlB w A n bs ∧ (0 < n → ∀ a, A = some a → a.block < p) ∧ Dice w p D A n cap
theorem Dice.lt {w : World} {p D : Nat} {A : Option Addr} {n cap : Nat} (h : Dice w p D A n cap) : p < w.heap.size := by
  obtain ⟨i, x, _, K⟩ := h
  exact K.lt
theorem DC.lt {w : World} {p D : Nat} (h : DC w p D) : p < w.heap.size := by
  obtain ⟨A, n, cap, bs, _, _, _, K⟩ := h
  exact K.lt
theorem DC.keep {w w' : World} {p D : Nat} (h : DC w p D) (hs : w.heap.size ≤ w'.heap.size) (hk : ∀ i, i ≤ p → w'.heap[i]? = w.heap[i]?) : DC w' p D := by
  obtain ⟨A, n, cap, bs, hn, hS, hA, i, x, hi, K⟩ := h
  exact ⟨A, n, cap, bs, hn, hS.keep hs (fun hn a ha => hk _ (Nat.le_of_lt (hA hn a ha))), hA, i, x, hi, (hk p (Nat.le_refl _)).trans K⟩
theorem DC.below {w w' : World} {p D : Nat} (h : DC w p D) {lo : Nat} (hb : Below lo w w') (hp : p < lo) : DC w' p D :=
  h.keep hb.size (fun i hi => hb.block i (by omega))
theorem DC.new {w w' : World} {p D : Nat} (h : DC w p D) (hb : Below w.heap.size w w') : DC w' p D := h.below hb h.lt
theorem DC.far {w : World} {p D : Nat} (h : DC w p D) {q : Addr} (hq : p < q.block) (u : Value) : DC (w.setCell q u) p D :=
  h.keep (by simp) (fun i hi => Below.heap_setCell w q u i (by omega))
theorem DC.alloc {w : World} {p D : Nat} (h : DC w p D) (o : Obj) : DC (w.alloc o) p D := h.new ((Below.refl _ _).alloc (Nat.le_refl _) o)
theorem DC.drew {w : World} {p D : Nat} (h : DC w p D) : DC w.drew p D := h
theorem DC.wrote {w w' : World} {p D : Nat} {A : Option Addr} (h : DC w p D) (hw : Wrote w w' A) (hA : ∀ a, A = some a → p < a.block) : DC w' p D :=
  h.keep hw.size (fun i hi => World.grownBy.block hw i (Nat.lt_of_le_of_lt hi h.lt) (by
    cases A with
    | none => simp
    | some a => simp only [Option.map_some, ne_eq, Option.some.injEq]; have := hA a rfl; omega))
/-- A throw of the dice. -/
def Threw (w : World) (p D : Nat) (m : Int) (e : Ending) (w' : World) : Prop := ∃ x, e = .returned (.int .i64 x) ∧ (0 ≤ x ∧ x < m) ∧ DC w' p D ∧ Wrote w w' (some ⟨p, 0, none⟩)
theorem rowd {w w' : World} {lo E s : Nat} {A : Option Addr} {n c p : Nat} {zs : List Int} (R : Row w lo E s A n c zs) (hw : Wrote w w' (some ⟨p, 0, none⟩)) (hp : p < lo) : Row w' lo E s A n c zs :=
  R.wrote hw (fun a b ha hb => by obtain rfl := Option.some.inj hb; have := R.ge a ha; simp; omega)
theorem below_dc (p : Nat) (m : Int) (w : World) (hD : DC w p 80) (hm : 0 < m) : Calls Tryz.prog 6 #[.pointer (some ⟨p, 0, none⟩), .int .i64 m] w (Threw w p 80 m) := by
  obtain ⟨A, n, cap, bs, hn, hS, hA, hd⟩ := hD
  refine (below_dice p n cap A bs m w hd hS hn hm (fun h a ha => Nat.ne_of_lt (hA h a ha))).mono ?_
  rintro e w' ⟨x, rfl, x0, x1, hd', hw⟩
  refine ⟨x, rfl, ⟨x0, x1⟩, ⟨A, n, cap, bs, hn, hS.keep hw.size (fun hn' a ha => World.grownBy.block hw _ ?_ ?_), hA, hd'⟩, hw⟩
  · obtain ⟨b, off, hA', hb, _⟩ := hS.2.2 hn'
    rw [ha] at hA'
    obtain rfl := Option.some.inj hA'
    exact hb
  · have := hA hn' a ha
    simp only [Option.map_some, ne_eq, Option.some.injEq]
    omega
theorem roll_dc (A : Option Addr) (n cap : Nat) (bs : List Int) (seed : Int) (w : World) (hS : SlB w A n bs) (hn : n ≤ 4096) (hs : 0 ≤ seed ∧ seed ≤ 100000) :
    Calls Tryz.prog 5 #[.slice A n cap, .int .u64 seed] w fun e w' => e = .returned (.pointer (some ⟨w.heap.size, 0, none⟩)) ∧ DC w' w.heap.size 80 ∧ Below w.heap.size w w' := by
  refine (roll_any A n cap bs seed w hS hn hs).mono ?_
  rintro e w' ⟨rfl, hd, hb⟩
  refine ⟨rfl, ⟨A, n, cap, bs, by unfold maxLen; omega, hS.below hb, fun hn' a ha => ?_, hd⟩, hb⟩
  obtain ⟨b, off, hA', hl, _⟩ := hS.2.2 hn'
  rw [ha] at hA'
  obtain rfl := Option.some.inj hA'
  exact hl
end Go.Proofs.YtbheflinchabgaaGreatDoor
namespace Go.Proofs.YtbheflinchabgaaGreatDoor
set_option linter.unusedSimpArgs false
set_option linter.unusedVariables false
attribute [local go_sem] n_lt2 n_lt3 n_lt4 n_le2 n_le3
open Go.RowKit
attribute [local go_sem] Ext.cell Ext.frozen
theorem info_Want9 : (Tryz.prog.info? 32).map (fun i => (i.zero, i.size, i.bytes)) = some (some (.agg #[.int .i64 0, .int .i64 0, .int .i64 0, .int .i64 0, .int .i64 0, .int .i64 0, .int .i64 0]), 7, 56) := by kernel_rfl
theorem cell_seven_at (w : World) (x0 x1 x2 x3 x4 x5 x6 : Value) (t : TypeId) (g : Nat) (hg : g = w.heap.size) : ∀ j u, [x0, x1, x2, x3, x4, x5, x6][j]? = some u → (w.alloc (.cells #[x0, x1, x2, x3, x4, x5, x6] t)).cell? ((⟨g, 0, none⟩ : Addr).add j) = some u := by
  subst hg
  intro j u hj
  match j, hj with
  | 0, hj => simp at hj; subst hj; simp [Addr.add]
  | 1, hj => simp at hj; subst hj; simp [Addr.add]
  | 2, hj => simp at hj; subst hj; simp [Addr.add]
  | 3, hj => simp at hj; subst hj; simp [Addr.add]
  | 4, hj => simp at hj; subst hj; simp [Addr.add]
  | 5, hj => simp at hj; subst hj; simp [Addr.add]
  | 6, hj => simp at hj; subst hj; simp [Addr.add]
theorem row0e {w : World} {g lo : Nat} {E s : Nat} (h : Blk w g E #[]) (hlo : lo ≤ g) : Row w lo E s (some ⟨g, 0, none⟩) 0 0 [] :=
  Blk.row h hlo (by unfold maxLen; omega) (by simp) (by simp) (by intro j hj; omega)
/-- A draw of wants. -/
def Wants (w : World) (p D m : Nat) (e : Ending) (w' : World) : Prop := ∃ A c wl, e = .returned (.slice A m c) ∧ wl.length = m ∧ wantsB wl = true ∧ Row w' w.heap.size 32 7 A m c (WT wl) ∧ DC w' p D ∧ Wrote w w' (some ⟨p, 0, none⟩)
end Go.Proofs.YtbheflinchabgaaGreatDoor
namespace Go.Proofs.YtbheflinchabgaaGreatDoor
set_option linter.unusedSimpArgs false
set_option linter.unusedVariables false
attribute [local go_sem] n_lt2 n_lt3 n_lt4 n_le2 n_le3
open Go.RowKit
attribute [local go_sem] Ext.cell Ext.frozen
def askB (c s k a b x y : Int) : Bool := inB c 2 5 && (inB s 1 2000 && opB k a b x y)
def readB (c s k l : Int) : Bool := inB c 2 5 && (inB s 1 2000 && (inB k 0 9 && inB l 0 2000))
theorem row_lit {w : World} {g lo : Nat} {E : TypeId} (zs : List Int) {cs : Array Value} (h : Blk w g E cs) (hc : cs = (ints zs).toArray) (hlo : lo ≤ g) (hn : zs.length ≤ maxLen) {k : Nat} (hk : zs.length = k) : Row w lo E 1 (some ⟨g, 0, none⟩) k k zs := by
  subst hc hk
  exact h.row hlo hn (by simp [ints]) (by simp) (fun j hj => by simpa using ints_get zs j (by omega))
theorem lit_cells {w : World} {g : Nat} {E : TypeId} (zs : List Int) {cs : Array Value} (h : Blk w g E cs) (hc : cs = (ints zs).toArray) : ∀ j u, (ints zs)[j]? = some u → w.cell? ((⟨g, 0, none⟩ : Addr).add j) = some u := by
  intro j u hu
  have hadd : (⟨g, 0, none⟩ : Addr).add j = ⟨g, j, none⟩ := by unfold Addr.add; split <;> simp_all
  rw [hadd, h.cell, hc]
  simpa using hu
/-- append of the numbers of a slice onto a full block of the call's own. -/
theorem step_append_lit {P : Program} {ops : Array Oper} {o : Oper} {a : Act} {w : World} {K : Act → World → Prop} {Q : Exit → Act → World → Prop} {E : Prop}
    (hg : o.guard = none) (s x : Operand) (t : TypeId) (hop : o.op = Op.call { callee := Callee.builtin Builtin.append, args := #[s, x], argTypes := #[t, t] })
    (e : TypeId) (i : TypeInfo) (z : Value) (bytes : Nat) (h1 : P.underlying t = some (.slice e)) (h2 : P.info? e = some i) (h3 : i.zero = some z) (h4 : i.size = 1) (h5 : i.bytes = bytes) (h6 : z.cells.size = 1)
    (g k : Nat) (hs : a.eval s = .slice (some ⟨g, 0, none⟩) k k) (ks : List Int) (hk : ks.length = k) (hcell : ∀ j u, (ints ks)[j]? = some u → w.cell? ((⟨g, 0, none⟩ : Addr).add j) = some u) (A : Option Addr) (m c : Nat) (zs : List Int) (hx : a.eval x = .slice A m c)
    (hm : 0 < m) (b1 : k ≤ 1000) (b2 : m ≤ 1000) (b3 : bytes ≤ 1000) (lo : Nat) (hlo : lo ≤ w.heap.size) (hS : Sl w 1 A m zs)
    (hK : ∀ g' c' w', Row w' lo e 1 (some ⟨g', 0, none⟩) (k + m) c' (ks ++ zs) → Below w.heap.size w w' → K (a.put o.dst (.slice (some ⟨g', 0, none⟩) (k + m) c')) w') :
    if Region.wanted o (yielded ops a.tmps) = true then Oper.wp P o a w K Q else E := by
  obtain ⟨b, off, rfl, hb, hc⟩ := hS.at_ hm
  have hl := hS.len
  refine step_append_grows hg s x t hop e i z 1 bytes h1 h2 h3 h4 h5 h6 (by decide) (some ⟨g, 0, none⟩) k k (ints ks) hs (by simp) (by rw [ints_length]; omega) (fun b' hb' j u hu => by obtain rfl := Option.some.inj hb'; exact hcell j u hu) ⟨b, off, none⟩ m c (ints zs) hx (by rw [ints_length]; exact hl)
      (slices_of hS rfl) (ints_oneCell' zs) (by omega) (by unfold maxLen; omega) (by have : (k + m) * bytes ≤ 2000 * 1000 := Nat.mul_le_mul (by omega) b3; omega) (fun v' w' hown hgr => ?_)
  rw [← ints_append] at hown
  have hB := grows_below hgr
  rcases hown.2 with ⟨_, h0⟩ | ⟨g', c', cur, rfl, hge, hg', hrest⟩
  · omega
  · have hR : Row w' w.heap.size e 1 (some ⟨g', 0, none⟩) (k + m) c' (ks ++ zs) := hown
    exact hK g' c' w' (hR.mono hlo) hB
abbrev Kp7 (w0 : World) (g0 : Nat) (x0y0 x0y1 x0y2 x0y3 x0y4 x0y5 x0y6 : Value) (w' : World) : Prop := Below w0.heap.size w0 w' ∧ w'.cell? ⟨g0, 0, none⟩ = some (x0y0) ∧ w'.cell? ⟨g0, 1, none⟩ = some (x0y1) ∧ w'.cell? ⟨g0, 2, none⟩ = some (x0y2) ∧ w'.cell? ⟨g0, 3, none⟩ = some (x0y3) ∧ w'.cell? ⟨g0, 4, none⟩ = some (x0y4) ∧ w'.cell? ⟨g0, 5, none⟩ = some (x0y5) ∧ w'.cell? ⟨g0, 6, none⟩ = some (x0y6)
theorem Kp7.of {w0 : World} {g0 : Nat} {x0y0 x0y1 x0y2 x0y3 x0y4 x0y5 x0y6 : Value} {e0 : TypeId} (K0 : Blk w0 g0 e0 #[x0y0, x0y1, x0y2, x0y3, x0y4, x0y5, x0y6]) {w' : World} (h : Below w0.heap.size w0 w') : Kp7 w0 g0 x0y0 x0y1 x0y2 x0y3 x0y4 x0y5 x0y6 w' := ⟨h, (K0.below h).cell 0, (K0.below h).cell 1, (K0.below h).cell 2, (K0.below h).cell 3, (K0.below h).cell 4, (K0.below h).cell 5, (K0.below h).cell 6⟩
theorem Kp7.b {w0 : World} {g0 : Nat} {x0y0 x0y1 x0y2 x0y3 x0y4 x0y5 x0y6 : Value} {w' : World} (h : Kp7 w0 g0 x0y0 x0y1 x0y2 x0y3 x0y4 x0y5 x0y6 w') : Below w0.heap.size w0 w' := h.1
theorem Kp7.le {w0 : World} {g0 : Nat} {x0y0 x0y1 x0y2 x0y3 x0y4 x0y5 x0y6 : Value} {w' : World} (h : Kp7 w0 g0 x0y0 x0y1 x0y2 x0y3 x0y4 x0y5 x0y6 w') : w0.heap.size ≤ w'.heap.size := h.1.size
theorem Kp7.drew {w0 : World} {g0 : Nat} {x0y0 x0y1 x0y2 x0y3 x0y4 x0y5 x0y6 : Value} {e0 : TypeId} (K0 : Blk w0 g0 e0 #[x0y0, x0y1, x0y2, x0y3, x0y4, x0y5, x0y6]) {w' : World} (h : Kp7 w0 g0 x0y0 x0y1 x0y2 x0y3 x0y4 x0y5 x0y6 w') : Kp7 w0 g0 x0y0 x0y1 x0y2 x0y3 x0y4 x0y5 x0y6 w'.drew := Kp7.of K0 h.1.drew
theorem Kp7.alloc {w0 : World} {g0 : Nat} {x0y0 x0y1 x0y2 x0y3 x0y4 x0y5 x0y6 : Value} {e0 : TypeId} (K0 : Blk w0 g0 e0 #[x0y0, x0y1, x0y2, x0y3, x0y4, x0y5, x0y6]) {w' : World} (h : Kp7 w0 g0 x0y0 x0y1 x0y2 x0y3 x0y4 x0y5 x0y6 w') (o : Obj) : Kp7 w0 g0 x0y0 x0y1 x0y2 x0y3 x0y4 x0y5 x0y6 (w'.alloc o) := Kp7.of K0 (h.1.alloc h.1.size o)
theorem Kp7.after {w0 : World} {g0 : Nat} {x0y0 x0y1 x0y2 x0y3 x0y4 x0y5 x0y6 : Value} {e0 : TypeId} (K0 : Blk w0 g0 e0 #[x0y0, x0y1, x0y2, x0y3, x0y4, x0y5, x0y6]) {w' w2 : World} (h : Kp7 w0 g0 x0y0 x0y1 x0y2 x0y3 x0y4 x0y5 x0y6 w') (b : Below w'.heap.size w' w2) : Kp7 w0 g0 x0y0 x0y1 x0y2 x0y3 x0y4 x0y5 x0y6 w2 := Kp7.of K0 (bthen h.1 b)
theorem Kp7.ad {w0 : World} {g0 : Nat} {x0y0 x0y1 x0y2 x0y3 x0y4 x0y5 x0y6 : Value} {e0 : TypeId} (K0 : Blk w0 g0 e0 #[x0y0, x0y1, x0y2, x0y3, x0y4, x0y5, x0y6]) {w' : World} (h : Kp7 w0 g0 x0y0 x0y1 x0y2 x0y3 x0y4 x0y5 x0y6 w'.drew) (o : Obj) : Kp7 w0 g0 x0y0 x0y1 x0y2 x0y3 x0y4 x0y5 x0y6 (w'.alloc o).drew := Kp7.of K0 (Below.drew (Below.alloc (show Below w0.heap.size w0 w' from ⟨h.1.os, h.1.tape, h.1.output, h.1.size, h.1.block⟩) h.1.size o))
set_option maxHeartbeats 2000000 in
theorem askOk_any (c s k a b x y : Int) (w : World) :
    Calls Tryz.prog 30 #[.agg #[.int .i64 c, .int .i64 s, .int .i64 k, .int .i64 a, .int .i64 b, .int .i64 x, .int .i64 y]] w fun e' w' => e' = .returned (.bool (askB c s k a b x y)) ∧ Below w.heap.size w w' := by
  go_enter Tryz.func30, Tryz.ntmps30
  go_wp2_with (first | (go_at_call 67; refine (askerOk_any _ _).mono ?_; rintro e w' ⟨rfl, rfl⟩) | (go_at_call 68; refine (seqOk_any _ _).mono ?_; rintro e w' ⟨rfl, rfl⟩) | (go_at_call 69; refine (opOk_any _ _ _ _ _ _).mono ?_; rintro e w1 ⟨rfl, hb'⟩; (first | (have hb2 := bstep hb' hb hb.size; clear hb' hcb hfb hz1 hz2 hz3 hz4 hb; have hb := hb2; clear hb2) | (have hb := hb'; clear hb')); obtain ⟨hcb, hfb, hz1, hz2, hz3, hz4⟩ := bcell hb; (try simp only [World.size_alloc, World.size_setCell, World.size_drew, Nat.lt_add_one_iff, Nat.add_assoc, Nat.reduceAdd] at hz1 hz2 hz3 hz4)))
  all_goals (go_ret; unfold askB; exact ⟨ret_bool (by first | (simp [*, beqI]; done) | (subst_vars; simp [*, beqI]; done) | (simp [*, beqI]; intros; omega) | (simp_all [beqI]; done)), by (repeat' (first | (with_reducible exact Below.refl _ _) | (with_reducible assumption) | (with_reducible refine Below.alloc ?_ ?_ _) | (with_reducible refine Below.drew ?_) | (with_reducible refine Below.setCell ?_ ?_ _) | (with_reducible refine bstep (by assumption) ?_ ?_) | (with_reducible exact Nat.le_refl _) | omega | (simp [*]; done) | (simp [*]; omega)))⟩)
set_option maxHeartbeats 2000000 in
theorem readOk_any (c s k l : Int) (w : World) :
    Calls Tryz.prog 156 #[.agg #[.int .i64 c, .int .i64 s, .int .i64 k, .int .i64 l]] w fun e' w' => e' = .returned (.bool (readB c s k l)) ∧ Below w.heap.size w w' := by
  go_enter Tryz.func156, Tryz.ntmps156
  go_wp2_with (first | (go_at_call 67; refine (askerOk_any _ _).mono ?_; rintro e w' ⟨rfl, rfl⟩) | (go_at_call 68; refine (seqOk_any _ _).mono ?_; rintro e w' ⟨rfl, rfl⟩) | (go_at_call 107; refine (keyOk_any _ _).mono ?_; rintro e w' ⟨rfl, rfl⟩) | (go_at_call 59; refine (between_any _ _ _ _).mono ?_; rintro e w' ⟨rfl, rfl⟩))
  all_goals (go_ret; unfold readB; exact ⟨ret_bool (by first | (simp [*, beqI]; done) | (subst_vars; simp [*, beqI]; done) | (simp [*, beqI]; intros; omega) | (simp_all [beqI]; done)), by (repeat' (first | (with_reducible exact Below.refl _ _) | (with_reducible assumption) | (with_reducible refine Below.alloc ?_ ?_ _) | (with_reducible refine Below.drew ?_) | (with_reducible refine Below.setCell ?_ ?_ _) | (with_reducible refine bstep (by assumption) ?_ ?_) | (with_reducible exact Nat.le_refl _) | omega | (simp [*]; done) | (simp [*]; omega)))⟩)
set_option maxHeartbeats 2000000 in
theorem askValid_any (c s k a b x y : Int) (w : World) :
    Calls Tryz.prog 151 #[.agg #[.int .i64 c, .int .i64 s, .int .i64 k, .int .i64 a, .int .i64 b, .int .i64 x, .int .i64 y]] w fun e' w' => e' = .returned (.bool (askB c s k a b x y)) ∧ Below w.heap.size w w' := by
  go_enter Tryz.func151, Tryz.ntmps151
  go_wp2_with (first | (go_at_call 30; refine (askOk_any _ _ _ _ _ _ _ _).mono ?_; rintro e w1 ⟨rfl, hb'⟩; (first | (have hb2 := bstep hb' hb hb.size; clear hb' hcb hfb hz1 hz2 hz3 hz4 hb; have hb := hb2; clear hb2) | (have hb := hb'; clear hb')); obtain ⟨hcb, hfb, hz1, hz2, hz3, hz4⟩ := bcell hb; (try simp only [World.size_alloc, World.size_setCell, World.size_drew, Nat.lt_add_one_iff, Nat.add_assoc, Nat.reduceAdd] at hz1 hz2 hz3 hz4)))
  all_goals (go_ret; exact ⟨ret_bool (by first | (simp [*, beqI]; done) | (subst_vars; simp [*, beqI]; done) | (simp [*, beqI]; intros; omega) | (simp_all [beqI]; done)), by (repeat' (first | (with_reducible exact Below.refl _ _) | (with_reducible assumption) | (with_reducible refine Below.alloc ?_ ?_ _) | (with_reducible refine Below.drew ?_) | (with_reducible refine Below.setCell ?_ ?_ _) | (with_reducible refine bstep (by assumption) ?_ ?_) | (with_reducible exact Nat.le_refl _) | omega | (simp [*]; done) | (simp [*]; omega)))⟩)
set_option maxHeartbeats 2000000 in
theorem readValid_any (c s k l : Int) (w : World) :
    Calls Tryz.prog 155 #[.agg #[.int .i64 c, .int .i64 s, .int .i64 k, .int .i64 l]] w fun e' w' => e' = .returned (.bool (readB c s k l)) ∧ Below w.heap.size w w' := by
  go_enter Tryz.func155, Tryz.ntmps155
  go_wp2_with (first | (go_at_call 156; refine (readOk_any _ _ _ _ _).mono ?_; rintro e w1 ⟨rfl, hb'⟩; (first | (have hb2 := bstep hb' hb hb.size; clear hb' hcb hfb hz1 hz2 hz3 hz4 hb; have hb := hb2; clear hb2) | (have hb := hb'; clear hb')); obtain ⟨hcb, hfb, hz1, hz2, hz3, hz4⟩ := bcell hb; (try simp only [World.size_alloc, World.size_setCell, World.size_drew, Nat.lt_add_one_iff, Nat.add_assoc, Nat.reduceAdd] at hz1 hz2 hz3 hz4)))
  all_goals (go_ret; exact ⟨ret_bool (by first | (simp [*, beqI]; done) | (subst_vars; simp [*, beqI]; done) | (simp [*, beqI]; intros; omega) | (simp_all [beqI]; done)), by (repeat' (first | (with_reducible exact Below.refl _ _) | (with_reducible assumption) | (with_reducible refine Below.alloc ?_ ?_ _) | (with_reducible refine Below.drew ?_) | (with_reducible refine Below.setCell ?_ ?_ _) | (with_reducible refine bstep (by assumption) ?_ ?_) | (with_reducible exact Nat.le_refl _) | omega | (simp [*]; done) | (simp [*]; omega)))⟩)
set_option maxHeartbeats 1000000 in
theorem opNumbers_any (k a b x y : Int) (w : World) :
    Calls Tryz.prog 131 #[.agg #[.int .i64 k, .int .i64 a, .int .i64 b, .int .i64 x, .int .i64 y]] w (RetRow w 2 1 5 [k, a, b, x, y]) := by
  go_enter Tryz.func131, Tryz.ntmps131
  go_wp2
  go_ret
  exact RetRow.mk (row_lit [k, a, b, x, y] (Blk.new_at _ _ _ _ (by simp)) rfl (by simp) (by simp [maxLen]) rfl) (by (repeat' (first | (with_reducible exact Below.refl _ _) | (with_reducible assumption) | (with_reducible refine Below.alloc ?_ ?_ _) | (with_reducible refine Below.drew ?_) | (with_reducible refine Below.setCell ?_ ?_ _) | (with_reducible refine bstep (by assumption) ?_ ?_) | (with_reducible exact Nat.le_refl _) | omega | (simp [*]; done) | (simp [*]; omega))))
set_option maxHeartbeats 1000000 in
theorem readFields_any (c s k l : Int) (w : World) :
    Calls Tryz.prog 154 #[.agg #[.int .i64 c, .int .i64 s, .int .i64 k, .int .i64 l]] w (RetRow w 2 1 4 [c, s, k, l]) := by
  go_enter Tryz.func154, Tryz.ntmps154
  go_wp2
  go_ret
  exact RetRow.mk (row_lit [c, s, k, l] (Blk.new_at _ _ _ _ (by simp)) rfl (by simp) (by simp [maxLen]) rfl) (by (repeat' (first | (with_reducible exact Below.refl _ _) | (with_reducible assumption) | (with_reducible refine Below.alloc ?_ ?_ _) | (with_reducible refine Below.drew ?_) | (with_reducible refine Below.setCell ?_ ?_ _) | (with_reducible refine bstep (by assumption) ?_ ?_) | (with_reducible exact Nat.le_refl _) | omega | (simp [*]; done) | (simp [*]; omega))))
set_option maxRecDepth 100000 in
set_option maxHeartbeats 4000000 in
theorem askFields_any (c s k a b x y : Int) (w : World) :
    Calls Tryz.prog 150 #[.agg #[.int .i64 c, .int .i64 s, .int .i64 k, .int .i64 a, .int .i64 b, .int .i64 x, .int .i64 y]] w (RetRow w 2 1 7 [c, s, k, a, b, x, y]) := by
  obtain ⟨i0, hi0, hz0, hs0, hy0⟩ := info_parts info_Int64
  go_enter Tryz.func150, Tryz.ntmps150
  go_wp2
  obtain ⟨v0, hv0⟩ : ∃ v : World, v = w.alloc (.cells #[.int .i64 c, .int .i64 s, .int .i64 k, .int .i64 a, .int .i64 b, .int .i64 x, .int .i64 y] 56) := ⟨_, rfl⟩
  have K0 : Blk v0 w.heap.size 56 #[.int .i64 c, .int .i64 s, .int .i64 k, .int .i64 a, .int .i64 b, .int .i64 x, .int .i64 y] := by rw [hv0]; exact Blk.new _ _ _
  have f0 : Below w.heap.size w v0 := by rw [hv0]; (repeat' (first | (with_reducible exact Below.refl _ _) | (with_reducible assumption) | (with_reducible refine Below.alloc ?_ ?_ _) | (with_reducible refine Below.drew ?_) | (with_reducible refine Below.setCell ?_ ?_ _) | (with_reducible refine bstep (by assumption) ?_ ?_) | (with_reducible exact Nat.le_refl _) | omega | (simp [*]; done) | (simp [*]; omega)))
  rw [← hv0]
  clear hv0
  have HK := Lib.hid (show Blk v0 w.heap.size 56 #[.int .i64 c, .int .i64 s, .int .i64 k, .int .i64 a, .int .i64 b, .int .i64 x, .int .i64 y] from K0)
  have HF := Lib.hid f0
  have z0 := HK.out.lt
  clear K0 f0
  have lt_a := HK.out.lt
  obtain ⟨r_a0, r_a1, r_a2, r_a3, r_a4, r_a5, r_a6⟩ := bc7 HK.out
  go_region_held_law (fun w' => Below v0.heap.size v0 w' ∧ w'.cell? ⟨w.heap.size, 0, none⟩ = some (.int .i64 c) ∧ w'.cell? ⟨w.heap.size, 1, none⟩ = some (.int .i64 s) ∧ w'.cell? ⟨w.heap.size, 2, none⟩ = some (.int .i64 k) ∧ w'.cell? ⟨w.heap.size, 3, none⟩ = some (.int .i64 a) ∧ w'.cell? ⟨w.heap.size, 4, none⟩ = some (.int .i64 b) ∧ w'.cell? ⟨w.heap.size, 5, none⟩ = some (.int .i64 x) ∧ w'.cell? ⟨w.heap.size, 6, none⟩ = some (.int .i64 y)) (first | with_reducible exact Kp7.of HK.out (Below.drew (Below.refl _ _)) | with_reducible exact Kp7.drew HK.out (by assumption) | with_reducible exact Kp7.ad HK.out (by assumption) _ | with_reducible exact Kp7.alloc HK.out (by assumption) _ | with_reducible exact Kp7.after HK.out (by assumption) (by assumption))
    (first
      | (go_at_call 131; refine (opNumbers_any k a b x y _).mono ?_; rintro e v1 ⟨A1, c1, rfl, R1, b1⟩)
      | (refine step_append_lit rfl _ _ 59 rfl 2 i0 _ 8 Tryz.underlying59 hi0 hz0 hs0 hy0 rfl _ 2 rfl [c, s] rfl (by first | exact lit_cells _ (Blk.below (Blk.drew (Blk.new_at _ _ _ _ rfl)) b1) rfl | exact lit_cells _ (Blk.new_at _ _ _ _ rfl) rfl) A1 5 c1 [k, a, b, x, y] rfl (by decide) (by decide) (by decide) (by decide) v0.heap.size (@Kp7.le v0 (w.heap.size) (.int .i64 c) (.int .i64 s) (.int .i64 k) (.int .i64 a) (.int .i64 b) (.int .i64 x) (.int .i64 y) _ (by assumption)) (by first | exact R1.sl | exact R1.sl.alloc _) ?_; intro g5 c5 w5 R5 B5))
  all_goals
    have hF := (@Kp7.b v0 (w.heap.size) (.int .i64 c) (.int .i64 s) (.int .i64 k) (.int .i64 a) (.int .i64 b) (.int .i64 x) (.int .i64 y) _ (by assumption))
    rename_i hHx
    clear hHx
    go_wp2
    refine bodyPost_ret (v := .slice (some ⟨g5, 0, none⟩) 7 c5) (by simp [results, Tryz.results150, go_sem]) rfl ?_
    exact RetRow.mk (R5.mono (Nat.le_of_lt z0)) (bthen HF.out hF)
end Go.Proofs.YtbheflinchabgaaGreatDoor
