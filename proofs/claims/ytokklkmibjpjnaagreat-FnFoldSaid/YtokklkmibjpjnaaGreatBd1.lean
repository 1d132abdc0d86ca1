/- Part 1 of what the claim rests on: Lib, A1, Flat, Mem, FlatS, Set, Nm, Bk, Reg, Wr2, App, DiceC, Job1, J1, M1, J2, J4, App2, SInt64, Cur, J6, SJob, P1, P3, P4. No condition of its own. -/
import Derived.WalkKit
import Derived.WalkSpells
import Derived.WalkLawsBesides
import Derived.Deep.QuietTactic
import Derived.BigQuiet
import Derived.Below
import Derived.Lib.Hide
import Derived.Handy
import Derived.Test.YtokklkmibjpjnaaGreatProg
import Derived.ProofKit
import Derived.Deep.Slices
import Derived.Maps.AppendAt
import Derived.Laws.IdiomCopy
import Derived.Lib.SliceRun
import Derived.Lib.AppendZerosOnto
import Derived.StillTailTactics
import Derived.Outline
import Derived.OwnWalk
import Derived.Laws.BitsAllLaws
import Derived.Maps.OwnSet
import Derived.Maps.Views
import Derived.Maps.OwnOps
import Derived.Deep.RegionHeldLaw
import Derived.Deep.AppendLies
namespace Go.Proofs.YtokklkmibjpjnaaGreat
set_option linter.unusedSimpArgs false
set_option linter.unusedVariables false
open Go.RowKit

theorem n_lt2 (n : Nat) : (n < n + 1 + 1) = True := by simp; omega
theorem n_lt3 (n : Nat) : (n < n + 1 + 1 + 1) = True := by simp; omega
theorem n_lt4 (n : Nat) : (n < n + 1 + 1 + 1 + 1) = True := by simp; omega
theorem n_le2 (n : Nat) : (n ≤ n + 1 + 1) = True := by simp; omega
theorem n_le3 (n : Nat) : (n ≤ n + 1 + 1 + 1) = True := by simp; omega

/-- A world that is W but for new memory. -/
structure Ext (W : World) where
  w : World
  h : Below W.heap.size W w

instance (W : World) : Inhabited (Ext W) := ⟨⟨W, Below.refl _ _⟩⟩

theorem Ext.cell {W : World} (z : Ext W) (b o : Nat) (hb : b < W.heap.size) : z.w.cell? ⟨b, o, none⟩ = W.cell? ⟨b, o, none⟩ := z.h.cell (p := ⟨b, o, none⟩) hb
theorem Ext.frozen {W : World} (z : Ext W) (b o : Nat) (hb : b < W.heap.size) : z.w.frozen? ⟨b, o, none⟩ = W.frozen? ⟨b, o, none⟩ := z.h.frozen (p := ⟨b, o, none⟩) hb

/-- A frame, cell by cell: the walk uses it as two rules. -/
theorem bcell {W w1 : World} (hb : Below W.heap.size W w1) : (∀ b o, b < W.heap.size → w1.cell? ⟨b, o, none⟩ = W.cell? ⟨b, o, none⟩) ∧ (∀ b o, b < W.heap.size → w1.frozen? ⟨b, o, none⟩ = W.frozen? ⟨b, o, none⟩) ∧
    (∀ x, x < W.heap.size → x < w1.heap.size) ∧ (∀ x, x ≤ W.heap.size → x ≤ w1.heap.size) ∧ (∀ x k, x < W.heap.size → x < w1.heap.size + k) ∧ (∀ x k, x ≤ W.heap.size → x ≤ w1.heap.size + k) :=
  ⟨fun b o h => hb.cell (p := ⟨b, o, none⟩) h, fun b o h => hb.frozen (p := ⟨b, o, none⟩) h, fun _ h => Nat.lt_of_lt_of_le h hb.size, fun _ h => Nat.le_trans h hb.size, fun _ _ h => Nat.lt_of_lt_of_le h (Nat.le_trans hb.size (Nat.le_add_right _ _)), fun _ _ h => Nat.le_trans h (Nat.le_trans hb.size (Nat.le_add_right _ _))⟩

theorem below_drewN {B : Nat} {a w : World} (h : Below B a w) (n : Nat) : Below B a (w.drewN n) := ⟨h.os, h.tape, h.output, h.size, h.block⟩

/-- One call more. -/
theorem bstep {B : Nat} {a W w' : World} (h : Below W.heap.size W w') (h1 : Below B a W) (hB : B ≤ W.heap.size) : Below B a w' := h1.trans (h.mono hB)

/-- A region that draws its order, whose operations only read and whose callees make at most new memory: one walk in the order of the text. -/
theorem wp_region_ext {P : Program} {id : Nat} {Q : Exit → Act → World → Prop} {a : Act} {w : World} {l : List Oper} (hm : P.follows .mixedOrders = true) (hB : Region.lexB .any l.toArray = true)
    (h : wpQuiet P l.toArray (fun w' => ∃ z : Ext w, w' = z.w) (fun a' => ∀ w', (∃ z : Ext w, w' = z.w) → Q .normal a' w') l a) : (Code.region id l.toArray true).wp P Q a w :=
  wp_region_quiet (C := fun w' => ∃ z : Ext w, w' = z.w) hm hB ⟨⟨{ w with drawn := w.drawn + 1 }, ⟨rfl, rfl, rfl, Nat.le_refl _, fun _ _ => rfl⟩⟩, rfl⟩ (by simpa using h)

/-- A callee's contract inside such a region. -/
theorem quiet_ext {P : Program} {f : FuncId} {args : Array Value} {W : World} {z : Ext W} {v : Value}
    (h : Calls P f args z.w fun e w' => e = .returned v ∧ Below z.w.heap.size z.w w') : Calls P f args z.w fun e w'' => e = .returned v ∧ ∃ z' : Ext W, w'' = z'.w :=
  h.mono fun _ w'' ⟨he, hm⟩ => ⟨he, ⟨w'', bstep hm z.h z.h.size⟩, rfl⟩
theorem quiet_ext_same {P : Program} {f : FuncId} {args : Array Value} {W : World} {z : Ext W} {v : Value}
    (h : Calls P f args z.w fun e w' => e = .returned v ∧ z.w = w') : Calls P f args z.w fun e w'' => e = .returned v ∧ ∃ z' : Ext W, w'' = z'.w :=
  h.mono fun _ _ ⟨he, hm⟩ => ⟨he, z, hm.symm⟩

theorem ret_bool {a b : Bool} (h : a = b) : Ending.returned (.bool a) = .returned (.bool b) := by rw [h]
theorem ret_int {k : IntKind} {a b : Int} (h : a = b) : Ending.returned (.int k a) = .returned (.int k b) := by rw [h]
theorem all_range_false {n k : Nat} {f : Nat → Bool} (hk : k < n) (hf : f k = false) : (List.range n).all f = false := by
  rw [List.all_eq_false]
  exact ⟨k, List.mem_range.2 hk, by simp [hf]⟩
theorem all_range_true {n : Nat} {f : Nat → Bool} (h : ∀ j, j < n → f j = true) : (List.range n).all f = true := by
  rw [List.all_eq_true]
  exact fun j hj => h j (List.mem_range.1 hj)
theorem upto_succ {k : Nat} {f : Nat → Bool} (h : ∀ j, j < k → f j = true) (hk : f k = true) : ∀ j, j < k + 1 → f j = true := fun j hj => by
  rcases Nat.lt_or_ge j k with h1 | h1
  · exact h j h1
  · obtain rfl : j = k := by omega
    exact hk

end Go.Proofs.YtokklkmibjpjnaaGreat
namespace Go.Proofs.YtokklkmibjpjnaaGreat
set_option linter.unusedSimpArgs false
set_option linter.unusedVariables false
attribute [local go_sem] n_lt2 n_lt3 n_lt4 n_le2 n_le3
open Go.RowKit

def inB (x lo hi : Int) : Bool := decide (lo ≤ x) && decide (x ≤ hi)
theorem inB_iff (x lo hi : Int) : inB x lo hi = true ↔ lo ≤ x ∧ x ≤ hi := by unfold inB; simp

theorem between_any (x lo hi : Int) (w : World) :
    Calls Tryz.prog 74 #[.int .i64 x, .int .i64 lo, .int .i64 hi] w fun e w' => e = .returned (.bool (inB x lo hi)) ∧ w = w' := by
  have hx : inB x lo hi = (decide (lo ≤ x) && decide (x ≤ hi)) := rfl
  rw [hx]; clear hx
  by_cases h1 : lo ≤ x
  · have e1 : decide (lo ≤ x) = true := by simpa using h1
    go_enter Tryz.func74, Tryz.ntmps74
    go_wp2
    all_goals (go_ret; exact ⟨by simp [*], rfl⟩)
  · have e1 : decide (lo ≤ x) = false := by simpa using h1
    go_enter Tryz.func74, Tryz.ntmps74
    go_wp2
    all_goals (go_ret; exact ⟨by simp [*], rfl⟩)
theorem l1In_any (x lo hi : Int) (w : World) :
    Calls Tryz.prog 60 #[.int .i64 x, .int .i64 lo, .int .i64 hi] w fun e w' => e = .returned (.bool (inB x lo hi)) ∧ w = w' := by
  have hx : inB x lo hi = (decide (lo ≤ x) && decide (x ≤ hi)) := rfl
  rw [hx]; clear hx
  by_cases h1 : lo ≤ x
  · have e1 : decide (lo ≤ x) = true := by simpa using h1
    go_enter Tryz.func60, Tryz.ntmps60
    go_wp2
    all_goals (go_ret; exact ⟨by simp [*], rfl⟩)
  · have e1 : decide (lo ≤ x) = false := by simpa using h1
    go_enter Tryz.func60, Tryz.ntmps60
    go_wp2
    all_goals (go_ret; exact ⟨by simp [*], rfl⟩)
theorem idOk_any (x : Int) (w : World) :
    Calls Tryz.prog 114 #[.int .i64 x] w fun e w' => e = .returned (.bool (inB x 1 20)) ∧ w = w' := by
  go_enter Tryz.func114, Tryz.ntmps114
  go_wp2_with ((go_at_call 74; refine (between_any _ _ _ _).mono ?_; rintro e w' ⟨rfl, rfl⟩))
  go_ret; exact ⟨rfl, rfl⟩
theorem timeOk_any (x : Int) (w : World) :
    Calls Tryz.prog 75 #[.int .i64 x] w fun e w' => e = .returned (.bool (inB x 0 1000000)) ∧ w = w' := by
  go_enter Tryz.func75, Tryz.ntmps75
  go_wp2_with ((go_at_call 74; refine (between_any _ _ _ _).mono ?_; rintro e w' ⟨rfl, rfl⟩))
  go_ret; exact ⟨rfl, rfl⟩
theorem keyOk_any (x : Int) (w : World) :
    Calls Tryz.prog 88 #[.int .i64 x] w fun e w' => e = .returned (.bool (inB x 0 9)) ∧ w = w' := by
  go_enter Tryz.func88, Tryz.ntmps88
  go_wp2_with ((go_at_call 74; refine (between_any _ _ _ _).mono ?_; rintro e w' ⟨rfl, rfl⟩))
  go_ret; exact ⟨rfl, rfl⟩
theorem valueOk_any (x : Int) (w : World) :
    Calls Tryz.prog 89 #[.int .i64 x] w fun e w' => e = .returned (.bool (inB x 0 999)) ∧ w = w' := by
  go_enter Tryz.func89, Tryz.ntmps89
  go_wp2_with ((go_at_call 74; refine (between_any _ _ _ _).mono ?_; rintro e w' ⟨rfl, rfl⟩))
  go_ret; exact ⟨rfl, rfl⟩
end Go.Proofs.YtokklkmibjpjnaaGreat
namespace Go.Proofs.YtokklkmibjpjnaaGreat
set_option linter.unusedSimpArgs false
set_option linter.unusedVariables false
attribute [local go_sem] n_lt2 n_lt3 n_lt4 n_le2 n_le3
open Go.ChangeShapes Go.WideShapes Go.ChangeAt Go.RowKit Go.Deep

/-- A number of 64 bits. -/
def I64 (z : Int) : Prop := -9223372036854775808 ≤ z ∧ z ≤ 9223372036854775807
theorem I64_of_wf {z : Int} (h : (Lit.int .i64 z).wf = true) : I64 z := by
  simp [Lit.wf, IntKind.min, IntKind.max, IntKind.signed, IntKind.bits] at h
  exact ⟨by omega, by omega⟩

/-- The fields lie one behind the other, from cell k to cell e. -/
def tiles (P : Program) : List Field → Nat → Nat → Bool
  | [], k, e => k == e
  | f :: fs, k, e => f.offset == k && tiles P fs (k + P.cellsOf f.type) e

/-- All leaves of the type are int64. -/
def flatB (P : Program) : Nat → TypeId → Bool
  | 0, _ => false
  | d + 1, t => match P.underlying t with
    | some (.int .i64) => P.cellsOf t == 1
    | some (.struct fs) => tiles P fs.toList 0 (P.cellsOf t) && fs.toList.all (fun f => flatB P d f.type)
    | _ => false

theorem tiles_le {P : Program} : ∀ (l : List Field) (k e : Nat), tiles P l k e = true → k ≤ e
  | [], k, e, h => by simp [tiles] at h; omega
  | f :: l, k, e, h => by
    simp only [tiles, Bool.and_eq_true] at h
    have := tiles_le l _ _ h.2
    omega

theorem tile_all {P : Program} (cs : List Value) (e : Nat) (hcs : cs.length = e) : ∀ (l : List Field) (k : Nat), tiles P l k e = true →
    (∀ f ∈ l, ∃ zs : List Int, (cs.drop f.offset).take (P.cellsOf f.type) = zs.map (Value.int .i64) ∧ zs.length = P.cellsOf f.type ∧ ∀ z ∈ zs, I64 z) →
    ∃ zs : List Int, cs.drop k = zs.map (Value.int .i64) ∧ zs.length + k = e ∧ ∀ z ∈ zs, I64 z
  | [], k, h, _ => by
    simp [tiles] at h
    exact ⟨[], by simp; omega, by simpa using h, by simp⟩
  | f :: l, k, h, hf => by
    simp only [tiles, Bool.and_eq_true, beq_iff_eq] at h
    obtain ⟨ho, ht⟩ := h
    obtain ⟨zs, hz, hn, hi⟩ := hf f (by simp)
    obtain ⟨zs', hz', hn', hi'⟩ := tile_all cs e hcs l _ ht (fun g hg => hf g (by simp [hg]))
    rw [ho] at hz
    refine ⟨zs ++ zs', ?_, by simp; omega, ?_⟩
    · rw [List.map_append, ← hz, ← hz', ← List.drop_drop, List.take_append_drop]
    · intro z hz
      rcases List.mem_append.1 hz with h | h
      · exact hi z h
      · exact hi' z h

section
variable {H : Type} {enc : TypeId × Value → H} {P : Program} {w : World} {base : Nat} {spare : Nat → Bool} {held : Bool}

theorem flat_trod : ∀ (d : Nat) (t : TypeId) (fuel : Nat) (cs : List Value) (x : DataW H × List MemPlace), flatB P d t = true → DataW.trod enc P w base spare held fuel t cs = some x →
    ∃ zs : List Int, cs = zs.map (Value.int .i64) ∧ zs.length = P.cellsOf t ∧ ∀ z ∈ zs, I64 z := by
  intro d
  induction d with
  | zero => intro t fuel cs x h; simp [flatB] at h
  | succ d ih =>
    intro t fuel cs x h hx
    unfold flatB at h
    split at h
    · rename_i ht
      obtain ⟨n, rfl, _, hw⟩ := DataW.trod_int ht hx
      exact ⟨[n], rfl, by simpa using (beq_iff_eq.1 h).symm, by simpa using I64_of_wf hw⟩
    · rename_i fs ht
      simp only [Bool.and_eq_true, List.all_eq_true] at h
      obtain ⟨xs, n, _, _, hlen, hxl, hf⟩ := DataW.trod_struct ht hx
      obtain ⟨zs, hz, hn, hi⟩ := tile_all cs _ hlen fs.toList 0 h.1 (by
        intro f hfm
        obtain ⟨i, hil, hfi⟩ := List.mem_iff_getElem.1 hfm
        have hil' : i < fs.size := by simpa using hil
        have hfi' : fs[i]? = some f := by
          rw [Array.getElem?_eq_getElem hil']
          simpa using hfi
        have h1 := hf i f hfi'
        rw [List.getElem?_eq_getElem (by omega)] at h1
        exact ih f.type n _ _ (h.2 f hfm) h1)
      exact ⟨zs, by simpa using hz, by simpa using hn, hi⟩
    · simp at h

/-- A struct by value. -/
theorem open_flat {r : Reach} {b0 : Nat} {t : TypeId} {fs : Array Field} {v : Value} {d : DataW H} {p : List MemPlace} (D : Nat) (ht : P.underlying t = some (.struct fs)) (hB : flatB P D t = true)
    (hv : Value.okWide P w r b0 t v) (h : DataW.Trod enc P w base spare held t v d p) :
    ∃ zs : List Int, v = .agg (zs.map (Value.int .i64)).toArray ∧ zs.length = P.cellsOf t ∧ ∀ z ∈ zs, I64 z := by
  obtain ⟨cs, rfl, hsz⟩ := okWide_struct ht hv
  obtain ⟨fuel, hf⟩ := h
  obtain ⟨zs, hz, hn, hi⟩ := flat_trod D t fuel _ _ hB hf
  have hz' : cs.toList = zs.map (Value.int .i64) := by simpa [Value.cells] using hz
  exact ⟨zs, by rw [← hz'], hn, hi⟩

/-- A number. -/
theorem open_i64 {r : Reach} {b0 : Nat} {t : TypeId} {v : Value} {d : DataW H} {p : List MemPlace} (ht : P.underlying t = some (.int .i64)) (hv : Value.okWide P w r b0 t v) (h : DataW.Trod enc P w base spare held t v d p) :
    ∃ z : Int, v = .int .i64 z ∧ I64 z := by
  obtain ⟨n, rfl, _, _, hw⟩ := open_int ht hv h
  exact ⟨n, rfl, I64_of_wf hw⟩

/-- The argument types of a law: each can be read again behind the call. -/
def kinds (P : Program) (ts : List TypeId) : Bool := ts.all fun t => P.readableRec t && decide (t < P.types.size)

theorem trodAll_kept (hl : laidOutB P = true) {W W' : World} (hb : Below W.heap.size W W') : ∀ {ts : List TypeId} {vs : List Value} {ds : List (DataW H)} {ps : List MemPlace}, kinds P ts = true →
    DataW.TrodAll enc P W 0 (fun _ => true) true ts vs ds ps → (∀ x ∈ ps, x.block < W.heap.size) → DataW.TrodAll enc P W' 0 (fun b => decide (b < W.heap.size)) true ts vs ds ps
  | [], [], [], _, _, h, _ => h
  | t :: ts, v :: vs, d :: ds, ps, hk, ⟨p, q, h1, h2, e⟩, hlt => by
    simp only [kinds, List.all_cons, Bool.and_eq_true, decide_eq_true_eq] at hk
    subst e
    exact ⟨p, q, Below.trod hl hk.1.1 hk.1.2 h1 hb (fun x hx => hlt x (by simp [hx])), trodAll_kept hl hb (by simpa [kinds] using hk.2) h2 (fun x hx => hlt x (by simp [hx])), rfl⟩

/-- The closing step of a law's row: the call has returned true and has left old memory as it was. -/
theorem law_post {f : Func} {s : ChangeSpec} {t : TypeId} {W W' : World} {args : Array Value} {ds gs : List (DataW H)} {before : List MemPlace}
    (hl : laidOutB P = true) (hk : kinds P f.params.toList = true) (hr : f.resultTypes.toList = [t]) (ht : P.underlying t = some .bool) (hv : s.vars = [])
    (hW : DataW.Whole enc P f.params.toList s.vars false W args.toList ds gs before) (hfn : s.fn H (ds ++ gs) = { results := [.lit (.bool true)], args := ds }) (hb : Below W.heap.size W W') :
    s.post enc P f false true false false W args (.bool true) W' := by
  have hlt := hW.lt
  have hW0 := hW
  obtain ⟨p, q, hA, hV, hpq, hfz, hnd⟩ := hW
  have hsz : f.resultTypes.size = 1 := by
    have := congrArg List.length hr
    simpa using this
  rw [hv] at hV
  have hgq : gs = [] ∧ q = [] := by
    cases gs with
    | nil => exact ⟨rfl, hV⟩
    | cons _ _ => exact hV.elim
  obtain ⟨rfl, rfl⟩ := hgq
  refine ⟨ds, [], before, [], p, [], hW0, ?_, ?_, ?_, hb.frame _, fun h => by cases h⟩
  · rw [hfn, hr, hsz]
    exact trodAll_mk1 (shut_bool ht true)
  · rw [hfn]
    exact trodAll_kept hl hb hk hA (fun x hx => hlt x (by rw [hpq]; simp [hx]))
  · rw [hv, hfn]
    rfl
end

theorem len1 {α : Type} {l : List α} (h : l.length = 1) : ∃ a, l = [a] := by
  match l, h with
  | [a], _ => exact ⟨a, rfl⟩
theorem len2 {α : Type} {l : List α} (h : l.length = 2) : ∃ a b, l = [a, b] := by
  match l, h with
  | [a, b], _ => exact ⟨a, b, rfl⟩
theorem len3 {α : Type} {l : List α} (h : l.length = 3) : ∃ a b c, l = [a, b, c] := by
  match l, h with
  | [a, b, c], _ => exact ⟨a, b, c, rfl⟩
theorem len4 {α : Type} {l : List α} (h : l.length = 4) : ∃ a b c d, l = [a, b, c, d] := by
  match l, h with
  | [a, b, c, d], _ => exact ⟨a, b, c, d, rfl⟩
theorem len5 {α : Type} {l : List α} (h : l.length = 5) : ∃ a b c d e, l = [a, b, c, d, e] := by
  match l, h with
  | [a, b, c, d, e], _ => exact ⟨a, b, c, d, e, rfl⟩

end Go.Proofs.YtokklkmibjpjnaaGreat
namespace Go.Proofs.YtokklkmibjpjnaaGreat
set_option linter.unusedSimpArgs false
set_option linter.unusedVariables false
attribute [local go_sem] n_lt2 n_lt3 n_lt4 n_le2 n_le3
open Go.RowKit

def ints (zs : List Int) : List Value := zs.map (Value.int .i64)
theorem ints_length (zs : List Int) : (ints zs).length = zs.length := by simp [ints]
theorem ints_get (zs : List Int) (j : Nat) (h : j < zs.length) : (ints zs)[j]? = some (.int .i64 (zs.getD j 0)) := by
  simp [ints, List.getD, h]
theorem ints_oneCell' (zs : List Int) : ∀ u ∈ ints zs, u.oneCell' = true := ints_oneCell .i64 zs
theorem ints_append (a b : List Int) : ints (a ++ b) = ints a ++ ints b := by simp [ints]
theorem ints_inj {a b : List Int} (h : ints a = ints b) : a = b := by
  unfold ints at h
  exact List.map_inj_right (fun x y hxy => by injection hxy) |>.1 h

/-- The slice value '.slice A n _' of elements of s cells reads as the numbers zs, one behind the other. -/
def Sl (w : World) (s : Nat) (A : Option Addr) (n : Nat) (zs : List Int) : Prop :=
  zs.length = n * s ∧ (0 < n → ∃ b off, A = some ⟨b, off, none⟩ ∧ b < w.heap.size ∧ ∀ j, j < n * s → w.cell? ⟨b, off + j, none⟩ = some (.int .i64 (zs.getD j 0)))

theorem Sl.len {w : World} {s : Nat} {A : Option Addr} {n : Nat} {zs : List Int} (h : Sl w s A n zs) : zs.length = n * s := h.1
theorem Sl.nil (w : World) (s : Nat) (A : Option Addr) : Sl w s A 0 [] := ⟨by simp, fun h => absurd h (by omega)⟩
theorem Sl.keep {w w' : World} {s : Nat} {A : Option Addr} {n : Nat} {zs : List Int} (h : Sl w s A n zs) (hs : w.heap.size ≤ w'.heap.size) (hc : ∀ p : Addr, A.map (·.block) = some p.block → w'.cell? p = w.cell? p) : Sl w' s A n zs :=
  ⟨h.1, fun hn => by
    obtain ⟨b, off, rfl, hb, hj⟩ := h.2 hn
    exact ⟨b, off, rfl, Nat.lt_of_lt_of_le hb hs, fun j hjn => (hc ⟨b, off + j, none⟩ rfl).trans (hj j hjn)⟩⟩
theorem Sl.below {w w' : World} {s : Nat} {A : Option Addr} {n : Nat} {zs : List Int} (h : Sl w s A n zs) (hb : Below w.heap.size w w') : Sl w' s A n zs :=
  ⟨h.1, fun hn => by
    obtain ⟨b, off, rfl, hbl, hj⟩ := h.2 hn
    exact ⟨b, off, rfl, Nat.lt_of_lt_of_le hbl hb.size, fun j hjn => (hb.cell hbl).trans (hj j hjn)⟩⟩
theorem Sl.drew {w : World} {s : Nat} {A : Option Addr} {n : Nat} {zs : List Int} (h : Sl w s A n zs) : Sl w.drew s A n zs := h
theorem Sl.at_ {w : World} {s : Nat} {A : Option Addr} {n : Nat} {zs : List Int} (h : Sl w s A n zs) (hn : 0 < n) :
    ∃ b off, A = some ⟨b, off, none⟩ ∧ b < w.heap.size ∧ ∀ j, j < n * s → w.cell? ⟨b, off + j, none⟩ = some (.int .i64 (zs.getD j 0)) := h.2 hn

/-- A row of the call's own, from block lo on: its slice value is '.slice A n cap', its numbers zs. -/
def Row (w : World) (lo : Nat) (e : TypeId) (s : Nat) (A : Option Addr) (n cap : Nat) (zs : List Int) : Prop := w.ownsRow lo e s (.slice A n cap) n (ints zs)

/-- The blocks of a slice lie below hi. -/
def LtB (A : Option Addr) (hi : Nat) : Prop := ∀ a, A = some a → a.block < hi
theorem LtB.mono {A : Option Addr} {hi hi' : Nat} (h : LtB A hi) (hh : hi ≤ hi') : LtB A hi' := fun a ha => Nat.lt_of_lt_of_le (h a ha) hh

theorem Row.lt {w : World} {lo : Nat} {e : TypeId} {s : Nat} {A : Option Addr} {n cap : Nat} {zs : List Int} (h : Row w lo e s A n cap zs) : LtB A w.heap.size := fun a ha => by
  subst ha
  exact (World.ownsRow.lt h a.block rfl).2
theorem Row.ge {w : World} {lo : Nat} {e : TypeId} {s : Nat} {A : Option Addr} {n cap : Nat} {zs : List Int} (h : Row w lo e s A n cap zs) : ∀ a, A = some a → lo ≤ a.block := fun a ha => by
  subst ha
  exact (World.ownsRow.lt h a.block rfl).1
theorem Row.len {w : World} {lo : Nat} {e : TypeId} {s : Nat} {A : Option Addr} {n cap : Nat} {zs : List Int} (h : Row w lo e s A n cap zs) : zs.length = n * s := by
  have := h.1
  rwa [ints_length] at this
theorem Row.sl {w : World} {lo : Nat} {e : TypeId} {s : Nat} {A : Option Addr} {n cap : Nat} {zs : List Int} (h : Row w lo e s A n cap zs) : Sl w s A n zs := by
  refine ⟨h.len, fun hn => ?_⟩
  have hlt := h.lt
  have hl := h.len
  rcases h.2 with ⟨_, h0⟩ | ⟨g, c, cur, hv, _, hg, _, _, hcs, ht⟩
  · omega
  · obtain ⟨rfl, rfl⟩ : A = some ⟨g, 0, none⟩ ∧ cap = c := by
      injection hv with h1 _ h3
      exact ⟨h1, h3⟩
    refine ⟨g, 0, rfl, hlt _ rfl, fun j hj => ?_⟩
    have hc := World.ownsRow.cellAt h j hj
    rw [Nat.zero_add, hc]
    exact ints_get zs j (by omega)
theorem Row.keep {w w' : World} {lo : Nat} {e : TypeId} {s : Nat} {A : Option Addr} {n cap : Nat} {zs : List Int} (h : Row w lo e s A n cap zs) (hk : ∀ a, A = some a → w'.heap[a.block]? = w.heap[a.block]?) : Row w' lo e s A n cap zs := by
  refine ⟨h.1, ?_⟩
  rcases h.2 with hn | ⟨g, c, cur, hv, hb, hg, rest⟩
  · exact .inl hn
  · refine .inr ⟨g, c, cur, hv, hb, ?_, rest⟩
    have hA : A = some ⟨g, 0, none⟩ := by injection hv
    rw [hk _ hA]
    exact hg
theorem Row.below {w w' : World} {lo : Nat} {e : TypeId} {s : Nat} {A : Option Addr} {n cap : Nat} {zs : List Int} (h : Row w lo e s A n cap zs) (hb : Below w.heap.size w w') : Row w' lo e s A n cap zs :=
  h.keep fun a ha => hb.block _ (h.lt a ha)
theorem Row.mono {w : World} {lo lo' : Nat} {e : TypeId} {s : Nat} {A : Option Addr} {n cap : Nat} {zs : List Int} (h : Row w lo e s A n cap zs) (hl : lo' ≤ lo) : Row w lo' e s A n cap zs := by
  refine ⟨h.1, ?_⟩
  rcases h.2 with hn | ⟨g, c, cur, hv, hb, rest⟩
  · exact .inl hn
  · exact .inr ⟨g, c, cur, hv, Nat.le_trans hl hb, rest⟩
theorem Row.nil (w : World) (lo : Nat) (e : TypeId) (s : Nat) : Row w lo e s none 0 0 [] := World.ownsRow_nil w lo e s
theorem Row.cap_le {w : World} {lo : Nat} {e : TypeId} {s : Nat} {A : Option Addr} {n cap : Nat} {zs : List Int} (h : Row w lo e s A n cap zs) : n ≤ cap ∧ cap ≤ maxLen := by
  rcases h.2 with ⟨hv, rfl⟩ | ⟨g, c, cur, hv, _, _, h1, h2, _⟩
  · injection hv with _ _ hc
    subst hc
    exact ⟨Nat.le_refl _, by simp⟩
  · injection hv with _ _ hc
    subst hc
    exact ⟨h1, h2⟩

/-- Only the row at A (and new memory) has been written. -/
def Wrote (w w' : World) (A : Option Addr) : Prop := w.grownBy w' (A.map (·.block))
theorem Wrote.size {w w' : World} {A : Option Addr} (h : Wrote w w' A) : w.heap.size ≤ w'.heap.size := World.grownBy.size h
/-- A row made before the written one. -/
theorem Row.wrote {w w' : World} {lo : Nat} {e : TypeId} {s : Nat} {A B : Option Addr} {n cap : Nat} {zs : List Int} (h : Row w lo e s A n cap zs) (hw : Wrote w w' B) (hne : ∀ a b, A = some a → B = some b → a.block ≠ b.block) : Row w' lo e s A n cap zs :=
  h.keep fun a ha => World.grownBy.block hw _ (h.lt a ha) (by
    cases B with
    | none => simp
    | some b => simp only [Option.map_some, ne_eq, Option.some.injEq]; exact hne a b ha rfl)
theorem Sl.wrote {w w' : World} {s : Nat} {A B : Option Addr} {n : Nat} {zs : List Int} (h : Sl w s A n zs) (hw : Wrote w w' B) (hne : 0 < n → ∀ a b, A = some a → B = some b → a.block ≠ b.block) : Sl w' s A n zs :=
  ⟨h.1, fun hn => by
    obtain ⟨b, off, rfl, hbl, hj⟩ := h.2 hn
    refine ⟨b, off, rfl, Nat.lt_of_lt_of_le hbl hw.size, fun j hjn => ?_⟩
    rw [World.cell?_of_block (World.grownBy.block hw _ hbl (by
      cases B with
      | none => simp
      | some c => simp only [Option.map_some, ne_eq, Option.some.injEq]; exact hne hn _ c rfl rfl))]
    exact hj j hjn⟩
theorem Sl.lt {w : World} {s : Nat} {A : Option Addr} {n : Nat} {zs : List Int} (h : Sl w s A n zs) (hn : 0 < n) : LtB A w.heap.size := fun a ha => by
  obtain ⟨b, off, rfl, hbl, _⟩ := h.2 hn
  obtain rfl := Option.some.inj ha
  exact hbl
/-- Two rows, one made before the other: no block is in both. -/
theorem apart_of {A B : Option Addr} {hi : Nat} (hA : LtB A hi) (hB : ∀ b, B = some b → hi ≤ b.block) : ∀ a b, A = some a → B = some b → a.block ≠ b.block := fun a b ha hb e => by
  have h1 := hA a ha
  have h2 := hB b hb
  omega
theorem apart_symm {A B : Option Addr} (h : ∀ a b, A = some a → B = some b → a.block ≠ b.block) : ∀ a b, B = some a → A = some b → a.block ≠ b.block := fun a b ha hb e => h b a hb ha e.symm
/-- The frame of the whole: a row of the call's own was written. -/
theorem Wrote.below {B : Nat} {a w w' : World} {A : Option Addr} (h : Wrote w w' A) (h1 : Below B a w) (hB : B ≤ w.heap.size) (hA : ∀ x, A = some x → B ≤ x.block) : Below B a w' :=
  h1.grown h hB (fun k hk => by
    cases A with
    | none => simp at hk
    | some x => simp only [Option.map_some, Option.some.injEq] at hk; subst hk; exact hA x rfl)

theorem wrote_set {w w' : World} {a : Addr} (h : Wrote w w' (some a)) {p : Addr} (hp : p.block = a.block) (u : Value) : Wrote w (w'.setCell p u) (some a) := by
  refine ⟨h.os, h.tape, h.output, by simpa [World.setCell] using World.grownBy.size h, fun k hk hne => ?_⟩
  rw [Below.heap_setCell w' p u k (by
    rintro rfl
    exact hne (by simp [hp]))]
  exact World.grownBy.block h k hk hne

/-- The frames of two calls, one behind the other. -/
theorem bthen {w a b : World} (h1 : Below w.heap.size w a) (h2 : Below a.heap.size a b) : Below w.heap.size w b := bstep h2 h1 h1.size

/-- A block known whole. -/
def Blk (w : World) (g : Nat) (e : TypeId) (cs : Array Value) : Prop := w.heap[g]? = some (.cells cs e (0, 0))
theorem Blk.lt {w : World} {g : Nat} {e : TypeId} {cs : Array Value} (h : Blk w g e cs) : g < w.heap.size := (Array.getElem?_eq_some_iff.1 h).1
theorem Blk.cell {w : World} {g : Nat} {e : TypeId} {cs : Array Value} (h : Blk w g e cs) (i : Nat) : w.cell? ⟨g, i, none⟩ = cs[i]? := cell_of_row w g i cs e (0, 0) h
theorem Blk.has {w : World} {g : Nat} {e : TypeId} {cs : Array Value} (h : Blk w g e cs) {i : Nat} (hi : i < cs.size) : ∃ c, w.cell? ⟨g, i, none⟩ = some c := ⟨cs[i], by rw [h.cell]; exact Array.getElem?_eq_getElem hi⟩
theorem Blk.frozen {w : World} {g : Nat} {e : TypeId} {cs : Array Value} (h : Blk w g e cs) (i : Nat) : w.frozen? ⟨g, i, none⟩ = false := by
  unfold Blk at h
  simp [World.frozen?, h]
theorem Blk.new (w : World) (e : TypeId) (cs : Array Value) : Blk (w.alloc (.cells cs e)) w.heap.size e cs := heap_alloc_new w _
theorem Blk.alloc {w : World} {g : Nat} {e : TypeId} {cs : Array Value} (h : Blk w g e cs) (o : Obj) : Blk (w.alloc o) g e cs := (Below.heap_alloc w o g h.lt).trans h
theorem Blk.drew {w : World} {g : Nat} {e : TypeId} {cs : Array Value} (h : Blk w g e cs) : Blk w.drew g e cs := h
theorem Blk.set_ {w : World} {g : Nat} {e : TypeId} {cs : Array Value} (h : Blk w g e cs) (i : Nat) (u : Value) : Blk (w.setCell ⟨g, i, none⟩ u) g e (cs.setIfInBounds i u) := by
  unfold Blk at h ⊢
  simp [World.setCell, Array.getElem?_modify, h]
theorem Blk.far {w : World} {g : Nat} {e : TypeId} {cs : Array Value} (h : Blk w g e cs) {p : Addr} (hp : g ≠ p.block) (u : Value) : Blk (w.setCell p u) g e cs := (Below.heap_setCell w p u g hp).trans h
theorem Blk.below {w w' : World} {g : Nat} {e : TypeId} {cs : Array Value} (h : Blk w g e cs) (hb : Below w.heap.size w w') : Blk w' g e cs := (hb.block g h.lt).trans h
theorem Blk.row {w : World} {g lo n : Nat} {e : TypeId} {s : Nat} {cs : Array Value} {zs : List Int} (h : Blk w g e cs) (hlo : lo ≤ g) (hn : n ≤ maxLen) (hcs : cs.size = n * s) (hz : zs.length = n * s) (hj : ∀ j, j < n * s → cs[j]? = some (.int .i64 (zs.getD j 0))) :
    Row w lo e s (some ⟨g, 0, none⟩) n n zs := by
  refine ⟨by rw [ints_length]; exact hz, .inr ⟨g, n, cs, rfl, hlo, h, Nat.le_refl _, hn, hcs, ?_⟩⟩
  rw [List.take_of_length_le (by simp; omega)]
  apply List.ext_getElem?
  intro j
  by_cases hjn : j < n * s
  · rw [ints_get zs j (by omega), ← hj j hjn]; simp
  · rw [List.getElem?_eq_none (by simp; omega), List.getElem?_eq_none (by rw [ints_length]; omega)]
/-- A row's block. -/
theorem Row.blk {w : World} {lo : Nat} {e : TypeId} {s : Nat} {A : Option Addr} {n cap : Nat} {zs : List Int} (h : Row w lo e s A n cap zs) (hn : 0 < n) :
    ∃ g cs, A = some ⟨g, 0, none⟩ ∧ lo ≤ g ∧ Blk w g e cs ∧ n ≤ cap ∧ cap ≤ maxLen ∧ cs.size = cap * s ∧ ∀ j, j < n * s → cs[j]? = some (.int .i64 (zs.getD j 0)) := by
  have hl := h.len
  rcases h.2 with ⟨_, h0⟩ | ⟨g, c, cur, hv, hb, hg, h1, h2, hcs, ht⟩
  · omega
  · obtain ⟨rfl, rfl⟩ : A = some ⟨g, 0, none⟩ ∧ cap = c := by
      injection hv with h1 _ h3
      exact ⟨h1, h3⟩
    refine ⟨g, cur, rfl, hb, hg, h1, h2, hcs, fun j hj => ?_⟩
    have := ints_get zs j (by omega)
    rw [← ht, List.getElem?_take, if_pos hj] at this
    simpa using this
/-- Back: the block with other cells. -/
theorem Row.of_blk {w : World} {g lo n cap : Nat} {e : TypeId} {s : Nat} {cs : Array Value} {zs : List Int} (h : Blk w g e cs) (hlo : lo ≤ g) (hn : n ≤ cap) (hc : cap ≤ maxLen) (hcs : cs.size = cap * s) (hz : zs.length = n * s) (hj : ∀ j, j < n * s → cs[j]? = some (.int .i64 (zs.getD j 0))) :
    Row w lo e s (some ⟨g, 0, none⟩) n cap zs := by
  have hle : n * s ≤ cap * s := Nat.mul_le_mul_right _ hn
  refine ⟨by rw [ints_length]; exact hz, .inr ⟨g, cap, cs, rfl, hlo, h, hn, hc, hcs, ?_⟩⟩
  apply List.ext_getElem?
  intro j
  rw [List.getElem?_take]
  by_cases hjn : j < n * s
  · rw [if_pos hjn, ints_get zs j (by omega), ← hj j hjn]; simp
  · rw [if_neg hjn, List.getElem?_eq_none (by rw [ints_length]; omega)]

/-- What a function that hands back a slice of flat elements leaves: a row of its own, old memory as it was. -/
def RetRow (w : World) (E s n : Nat) (zs : List Int) (e : Ending) (w' : World) : Prop := ∃ A cap, e = .returned (.slice A n cap) ∧ Row w' w.heap.size E s A n cap zs ∧ Below w.heap.size w w'

theorem RetRow.mk {w w' : World} {E s n : Nat} {zs : List Int} {A : Option Addr} {cap : Nat} (h : Row w' w.heap.size E s A n cap zs) (hb : Below w.heap.size w w') : RetRow w E s n zs (.returned (.slice A n cap)) w' := ⟨A, cap, rfl, h, hb⟩

/-- 'make([]T, n)' at a length of at most 2^20, the elements of at most 4096 bytes. -/
theorem make_flat {P : Program} (t e : TypeId) (z : Value) (s bytes : Nat) (ht : P.underlying t = some (.slice e)) (hinfo : (P.info? e).map (fun i => (i.zero, i.size, i.bytes)) = some (some z, s, bytes)) (hb : bytes ≤ 4096) (n : Nat) (hn : n ≤ 1048576) (w : World) :
    (Instr.makeSlice t (.int .i64 (n : Int)) (.int .i64 (n : Int))).run P w = .ok (.slice (some ⟨w.heap.size, 0, none⟩) n n) (w.alloc (.cells (madeCells z.cells (n * s)) e)) := by
  obtain ⟨i, hi, hz, rfl, hby⟩ := info_parts hinfo
  have hle : bytes * n ≤ 4096 * 1048576 := Nat.mul_le_mul hb hn
  have hle' : (i.bytes : Int) * (n : Int) ≤ 281474976710656 := by
    rw [hby, ← Int.natCast_mul]
    omega
  have h := run_make (P := P) w t e i z ht hi hz .i64 .i64 n n (by omega) (Int.le_refl _) hle' (by omega)
  simpa using h

/-- Equal lists, as a Bool that the walk does not open. -/
def eqL (a b : List Int) : Bool := decide (a = b)
theorem eqL_true {a b : List Int} (h : eqL a b = true) : a = b := by simpa [eqL] using h
theorem eqL_false {a b : List Int} (h : ¬ eqL a b = true) : a ≠ b := by simpa [eqL] using h
theorem eqL_self (a : List Int) : eqL a a = true := by simp [eqL]
theorem eqL_ne {a b : List Int} (h : a ≠ b) : eqL a b = false := by simpa [eqL] using h

/-- The numbers k, k + 1, .. (m of them): what the law's marks lay. -/
def marks (k : Int) (m : Nat) : List Int := (List.range m).map fun (j : Nat) => k + (j : Int)
theorem marks_length (k : Int) (m : Nat) : (marks k m).length = m := by simp [marks]
theorem marks_getD (k : Int) (m j : Nat) (h : j < m) : (marks k m).getD j 0 = k + (j : Int) := by simp [marks, List.getD, h]

/-- What mark leaves. -/
def RetMark (w : World) (lo E s : Nat) (A : Option Addr) (n cap : Nat) (k : Int) (e : Ending) (w' : World) : Prop := e = .returned (.int .i64 (k + (n * s : Nat))) ∧ Row w' lo E s A n cap (marks k (n * s)) ∧ Wrote w w' A
theorem RetMark.mk {w w' : World} {lo E s : Nat} {A : Option Addr} {n cap : Nat} {k k' : Int} (hk : k' = k + (n * s : Nat)) (h : Row w' lo E s A n cap (marks k (n * s))) (hw : Wrote w w' A) : RetMark w lo E s A n cap k (.returned (.int .i64 k')) w' := ⟨by rw [hk], h, hw⟩

theorem list_ext_getD {a b : List Int} (hl : a.length = b.length) (h : ∀ j, j < a.length → a.getD j 0 = b.getD j 0) : a = b := by
  apply List.ext_getElem hl
  intro j h1 h2
  have := h j h1
  simpa [List.getD, h1, h2] using this

end Go.Proofs.YtokklkmibjpjnaaGreat
namespace Go.Proofs.YtokklkmibjpjnaaGreat
open Go.RowKit
theorem bc3 {w : World} {g e : Nat} {x0 x1 x2 : Value} (h : Blk w g e #[x0, x1, x2]) : w.cell? ⟨g, 0, none⟩ = some x0 ∧ w.cell? ⟨g, 1, none⟩ = some x1 ∧ w.cell? ⟨g, 2, none⟩ = some x2 := ⟨h.cell 0, h.cell 1, h.cell 2⟩
theorem bc5 {w : World} {g e : Nat} {x0 x1 x2 x3 x4 : Value} (h : Blk w g e #[x0, x1, x2, x3, x4]) : w.cell? ⟨g, 0, none⟩ = some x0 ∧ w.cell? ⟨g, 1, none⟩ = some x1 ∧ w.cell? ⟨g, 2, none⟩ = some x2 ∧ w.cell? ⟨g, 3, none⟩ = some x3 ∧ w.cell? ⟨g, 4, none⟩ = some x4 := ⟨h.cell 0, h.cell 1, h.cell 2, h.cell 3, h.cell 4⟩
theorem bc7 {w : World} {g e : Nat} {x0 x1 x2 x3 x4 x5 x6 : Value} (h : Blk w g e #[x0, x1, x2, x3, x4, x5, x6]) : w.cell? ⟨g, 0, none⟩ = some x0 ∧ w.cell? ⟨g, 1, none⟩ = some x1 ∧ w.cell? ⟨g, 2, none⟩ = some x2 ∧ w.cell? ⟨g, 3, none⟩ = some x3 ∧ w.cell? ⟨g, 4, none⟩ = some x4 ∧ w.cell? ⟨g, 5, none⟩ = some x5 ∧ w.cell? ⟨g, 6, none⟩ = some x6 := ⟨h.cell 0, h.cell 1, h.cell 2, h.cell 3, h.cell 4, h.cell 5, h.cell 6⟩
theorem bc9 {w : World} {g e : Nat} {x0 x1 x2 x3 x4 x5 x6 x7 x8 : Value} (h : Blk w g e #[x0, x1, x2, x3, x4, x5, x6, x7, x8]) : w.cell? ⟨g, 0, none⟩ = some x0 ∧ w.cell? ⟨g, 1, none⟩ = some x1 ∧ w.cell? ⟨g, 2, none⟩ = some x2 ∧ w.cell? ⟨g, 3, none⟩ = some x3 ∧ w.cell? ⟨g, 4, none⟩ = some x4 ∧ w.cell? ⟨g, 5, none⟩ = some x5 ∧ w.cell? ⟨g, 6, none⟩ = some x6 ∧ w.cell? ⟨g, 7, none⟩ = some x7 ∧ w.cell? ⟨g, 8, none⟩ = some x8 := ⟨h.cell 0, h.cell 1, h.cell 2, h.cell 3, h.cell 4, h.cell 5, h.cell 6, h.cell 7, h.cell 8⟩
theorem bf5 {w : World} {g e : Nat} {cs : Array Value} (h : Blk w g e cs) : w.frozen? ⟨g, 0, none⟩ = false ∧ w.frozen? ⟨g, 1, none⟩ = false ∧ w.frozen? ⟨g, 2, none⟩ = false ∧ w.frozen? ⟨g, 3, none⟩ = false ∧ w.frozen? ⟨g, 4, none⟩ = false := ⟨h.frozen 0, h.frozen 1, h.frozen 2, h.frozen 3, h.frozen 4⟩
theorem bf7 {w : World} {g e : Nat} {cs : Array Value} (h : Blk w g e cs) : w.frozen? ⟨g, 0, none⟩ = false ∧ w.frozen? ⟨g, 1, none⟩ = false ∧ w.frozen? ⟨g, 2, none⟩ = false ∧ w.frozen? ⟨g, 3, none⟩ = false ∧ w.frozen? ⟨g, 4, none⟩ = false ∧ w.frozen? ⟨g, 5, none⟩ = false ∧ w.frozen? ⟨g, 6, none⟩ = false := ⟨h.frozen 0, h.frozen 1, h.frozen 2, h.frozen 3, h.frozen 4, h.frozen 5, h.frozen 6⟩
end Go.Proofs.YtokklkmibjpjnaaGreat
namespace Go.Proofs.YtokklkmibjpjnaaGreat
set_option linter.unusedSimpArgs false
set_option linter.unusedVariables false
attribute [local go_sem] n_lt2 n_lt3 n_lt4 n_le2 n_le3
open Go.ChangeShapes Go.WideShapes Go.ChangeAt Go.RowKit Go.Deep

section
variable {α : Type} (c : α → List Int) (s : Nat)
theorem flat_len (l : List α) (h : ∀ a ∈ l, (c a).length = s) : (l.flatMap c).length = l.length * s := by
  induction l with
  | nil => simp
  | cons a l ih =>
    rw [List.flatMap_cons, List.length_append, h a (by simp), ih (fun b hb => h b (by simp [hb])), List.length_cons, Nat.add_mul]
    omega
theorem flat_get : ∀ (l : List α) (_h : ∀ a ∈ l, (c a).length = s) (i j : Nat) (hi : i < l.length) (_hj : j < s), (l.flatMap c)[i * s + j]? = (c l[i])[j]?
  | [], _, i, _, hi, _ => by simp at hi
  | a :: l, h, 0, j, _, hj => by
    have ha : (c a).length = s := h a (by simp)
    rw [List.flatMap_cons, Nat.zero_mul, Nat.zero_add, List.getElem?_append_left (by omega)]
    rfl
  | a :: l, h, i + 1, j, hi, hj => by
    have ha : (c a).length = s := h a (by simp)
    rw [List.flatMap_cons, List.getElem?_append_right (by rw [ha, Nat.add_mul]; omega), ha]
    have e : (i + 1) * s + j - s = i * s + j := by rw [Nat.add_mul]; omega
    rw [e]
    exact flat_get l (fun b hb => h b (by simp [hb])) i j (by simpa using hi) hj
theorem flat_getD (l : List α) (h : ∀ a ∈ l, (c a).length = s) (i j : Nat) (hi : i < l.length) (hj : j < s) : (l.flatMap c).getD (i * s + j) 0 = (c l[i]).getD j 0 := by
  rw [List.getD_eq_getElem?_getD, List.getD_eq_getElem?_getD, flat_get c s l h i j hi hj]
end

theorem choose_zs {n : Nat} {Q : Nat → List Int → Prop} (h : ∀ i, i < n → ∃ zs, Q i zs) : ∃ Z : Nat → List Int, ∀ i, i < n → Q i (Z i) :=
  ⟨fun i => if hi : i < n then Classical.choose (h i hi) else [], fun i hi => by
    simp only [hi, dif_pos]
    exact Classical.choose_spec (h i hi)⟩

section
variable {H : Type} {enc : TypeId × Value → H} {P : Program} {w : World} {base : Nat} {spare : Nat → Bool} {held : Bool}

theorem trod_slice_flat {t e : TypeId} {s : Nat} {fuel : Nat} {cs : List Value} {x : DataW H × List MemPlace} (D : Nat) (ht : P.underlying t = some (.slice e)) (hB : flatB P D e = true) (hs : P.cellsOf e = s) (hs0 : 0 < s)
    (h : DataW.trod enc P w base spare held fuel t cs = some x) : ∃ A n cap zs, cs = [.slice A n cap] ∧ Sl w s A n zs ∧ n ≤ cap ∧ cap ≤ maxLen ∧ ∀ z ∈ zs, I64 z := by
  rcases open_slice ht h with ⟨rfl, _⟩ | ⟨a, len, cap, m, k, Dt, Pl, rfl, _, hl, hm, hmm, _, hi⟩
  · exact ⟨none, 0, 0, [], rfl, Sl.nil _ _ _, Nat.le_refl _, by simp, by simp⟩
  · have hlm : len ≤ m := by rw [hmm]; split <;> omega
    have hel : ∀ i, i < len → ∃ zs : List Int, zs.length = s ∧ (∀ z ∈ zs, I64 z) ∧ ∀ j, j < s → w.cell? (a.add (i * s + j)) = some (.int .i64 (zs.getD j 0)) := by
      intro i hil
      obtain ⟨cs', hc, ht'⟩ := hi i (by omega)
      rw [hs] at hc
      obtain ⟨zs, rfl, hn, h64⟩ := flat_trod D e _ _ _ hB ht'
      rw [hs] at hn
      obtain ⟨_, _, hat⟩ := World.cells?_some hc
      refine ⟨zs, hn, h64, fun j hj => ?_⟩
      have h1 := hat j hj
      rw [add_add] at h1
      rw [h1]
      exact ints_get zs j (by omega)
    obtain ⟨Z, hZ⟩ := choose_zs hel
    have hzl : ∀ i ∈ List.range len, (Z i).length = s := fun i hir => (hZ i (List.mem_range.1 hir)).1
    refine ⟨some a, len, cap, (List.range len).flatMap Z, rfl, ⟨?_, fun hn => ?_⟩, hl, hm, ?_⟩
    · rw [flat_len Z s _ hzl, List.length_range]
    · have hcell : ∀ j, j < len * s → w.cell? (a.add j) = some (.int .i64 (((List.range len).flatMap Z).getD j 0)) := by
        intro j hj
        have hi' : j / s < len := Nat.div_lt_of_lt_mul (by rwa [Nat.mul_comm])
        have hj' : j % s < s := Nat.mod_lt _ hs0
        have e : j / s * s + j % s = j := Nat.div_add_mod' j s
        have h1 := (hZ _ hi').2.2 _ hj'
        have h2 := flat_getD Z s (List.range len) hzl (j / s) (j % s) (by simpa using hi') hj'
        rw [e] at h1 h2
        rw [h1, h2]
        simp
      obtain ⟨b, off, spot⟩ := a
      have h0 := hcell 0 (Nat.mul_pos hn hs0)
      have hspot : spot = none := by simpa [Addr.add] using World.cell?_spot h0
      subst hspot
      refine ⟨b, off, rfl, ?_, fun j hj => by rw [← Go.WideShapes.add_plain]; exact hcell j hj⟩
      rw [Go.WideShapes.add_plain] at h0
      exact World.block_lt_of_cell? w ⟨b, off + 0, none⟩ h0
    · intro z hz
      obtain ⟨i, hir, hzi⟩ := List.mem_flatMap.1 hz
      exact (hZ i (List.mem_range.1 hir)).2.1 z hzi

/-- An argument that is a slice of such structs (or of int64). -/
theorem open_slice_flat {r : Reach} {b0 : Nat} {t e : TypeId} {s : Nat} {v : Value} {d : DataW H} {p : List MemPlace} (D : Nat) (ht : P.underlying t = some (.slice e)) (hB : flatB P D e = true) (hs : P.cellsOf e = s) (hs0 : 0 < s)
    (hv : Value.okWide P w r b0 t v) (h : DataW.Trod enc P w base spare held t v d p) : ∃ A n cap zs, v = .slice A n cap ∧ Sl w s A n zs ∧ n ≤ cap ∧ cap ≤ maxLen ∧ ∀ z ∈ zs, I64 z := by
  obtain ⟨a, len, cap, rfl⟩ := okWide_slice ht hv
  obtain ⟨fuel, hf⟩ := h
  obtain ⟨A, n, c, zs, hc, rest⟩ := trod_slice_flat D ht hB hs hs0 hf
  have e : Value.slice a len cap = .slice A n c := by simpa [Value.cells] using hc
  exact ⟨A, n, c, zs, e, rest⟩
end
end Go.Proofs.YtokklkmibjpjnaaGreat
namespace Go.Proofs.YtokklkmibjpjnaaGreat
set_option linter.unusedSimpArgs false
set_option linter.unusedVariables false
attribute [local go_sem] n_lt2 n_lt3 n_lt4 n_le2 n_le3
open Go.RowKit

def slen : Value → Nat
  | .slice _ n _ => n
  | _ => 0
/-- vs laid over cs from o on. -/
def over (cs : Array Value) : Nat → List Value → Array Value
  | _, [] => cs
  | o, v :: r => over (cs.setIfInBounds o v) (o + 1) r
theorem over_size : ∀ (vs : List Value) (cs : Array Value) (o : Nat), (over cs o vs).size = cs.size
  | [], _, _ => rfl
  | v :: r, cs, o => by rw [over, over_size r]; simp
theorem over_out : ∀ (vs : List Value) (cs : Array Value) (o j : Nat), (j < o ∨ o + vs.length ≤ j) → (over cs o vs)[j]? = cs[j]?
  | [], _, _, _, _ => rfl
  | v :: r, cs, o, j, h => by
    simp only [List.length_cons] at h
    rw [over, over_out r _ (o + 1) j (by omega), Array.getElem?_setIfInBounds_ne (by omega)]
theorem over_in : ∀ (vs : List Value) (cs : Array Value) (o j : Nat), o + vs.length ≤ cs.size → j < vs.length → (over cs o vs)[o + j]? = vs[j]?
  | v :: r, cs, o, 0, h, _ => by
    simp only [List.length_cons] at h
    rw [over, over_out r _ (o + 1) _ (by omega), Nat.add_zero, Array.getElem?_setIfInBounds_self_of_lt (by omega)]
    rfl
  | v :: r, cs, o, j + 1, h, hj => by
    simp only [List.length_cons] at h hj
    rw [over, show o + (j + 1) = o + 1 + j by omega, over_in r _ (o + 1) j (by simp; omega) (by omega)]
    simp
theorem Blk.over {g : Nat} {e : TypeId} : ∀ (vs : List Value) (cs : Array Value) (o : Nat) (w : World), Blk w g e cs → Blk (w.setCells g o vs) g e (over cs o vs)
  | [], _, _, _, h => h
  | v :: r, cs, o, w, h => Blk.over r _ (o + 1) _ (h.set_ o v)
theorem below_setCells {B g : Nat} {a : World} (hg : B ≤ g) : ∀ (vs : List Value) (o : Nat) (w : World), Below B a w → Below B a (w.setCells g o vs)
  | [], _, _, h => h
  | v :: r, o, w, h => below_setCells hg r (o + 1) _ (h.setCell (p := ⟨g, o, none⟩) hg v)
theorem heap_setCells {g k : Nat} (hk : k ≠ g) : ∀ (vs : List Value) (o : Nat) (w : World), (w.setCells g o vs).heap[k]? = w.heap[k]?
  | [], _, _ => rfl
  | v :: r, o, w => (heap_setCells hk r (o + 1) _).trans (Below.heap_setCell w ⟨g, o, none⟩ v k hk)
theorem size_setCells {g : Nat} : ∀ (vs : List Value) (o : Nat) (w : World), (w.setCells g o vs).heap.size = w.heap.size
  | [], _, _ => rfl
  | v :: r, o, w => (size_setCells r (o + 1) _).trans (by simp [World.setCell])
theorem drew_setCells (b : Nat) : ∀ (vs : List Value) (o : Nat) (w : World), (w.setCells b o vs).drew = w.drew.setCells b o vs
  | [], _, _ => rfl
  | v :: r, o, w => by rw [World.setCells, World.setCells, drew_setCells b r]; rfl

def zeros (n : Nat) : List Value := List.replicate n (.int .i64 0)
theorem zeros_length (n : Nat) : (zeros n).length = n := by simp [zeros]
theorem zeros_ints (n : Nat) : zeros n = ints (List.replicate n 0) := by simp [zeros, ints]
theorem zeroCells_flat {z : Value} {s : Nat} (hz : z.cells = Array.replicate s (.int .i64 0)) (n : Nat) : (Builtin.zeroCells z.cells n).toList = zeros (n * s) := by
  rw [hz]
  unfold Builtin.zeroCells zeros
  apply List.ext_getElem
  · simp
  · intro i h1 h2
    simp only [List.length_replicate] at h2
    have hs : 0 < s := by
      rcases Nat.eq_zero_or_pos s with h | h
      · subst h; simp at h2
      · exact h
    have hm : i % s < s := Nat.mod_lt _ hs
    simp [hm]

theorem getD_drop (l : List Int) (a t : Nat) : (l.drop a).getD t 0 = l.getD (a + t) 0 := by simp [List.getD]
theorem getD_take (l : List Int) (a t : Nat) (h : t < a) : (l.take a).getD t 0 = l.getD t 0 := by simp [List.getD, List.getElem?_take, h]
theorem getD_append_l (a b : List Int) (t : Nat) (h : t < a.length) : (a ++ b).getD t 0 = a.getD t 0 := by simp [List.getD, List.getElem?_append_left h]
theorem getD_append_r (a b : List Int) (t : Nat) (h : a.length ≤ t) : (a ++ b).getD t 0 = b.getD (t - a.length) 0 := by simp [List.getD, List.getElem?_append_right h]
theorem Sl.sub {w : World} {b off n : Nat} {zs : List Int} (h : Sl w 1 (some ⟨b, off, none⟩) n zs) (k m : Nat) (hm : k + m ≤ n) : Sl w 1 (some ⟨b, off + k, none⟩) m ((zs.drop k).take m) := by
  have hl := h.len
  refine ⟨by simp; omega, fun hm0 => ?_⟩
  obtain ⟨b', off', hA, hb, hc⟩ := h.at_ (by omega)
  injection hA with hA
  injection hA with h1 h2
  subst h1 h2
  refine ⟨b, off + k, rfl, hb, fun j hj => ?_⟩
  rw [getD_take _ _ _ (by omega), getD_drop, Nat.add_assoc]
  exact hc (k + j) (by omega)
/-- 'clear' of n > 0 elements of s cells each. -/
theorem run_clear_flat {P : Program} (w : World) (t e ty : TypeId) (z : Value) (s : Nat) (ht : P.underlying t = some (.slice e)) (hv : ∀ w, (zeroValue e).run P w = .ok z w) (hz : z.cells = Array.replicate s (.int .i64 0)) (b o n c : Nat) (hn : 0 < n)
    (hc : ∀ j, j < n * s → (w.cell? ⟨b, o + j, none⟩).isSome = true) (hf : ∀ j, j < n * s → w.frozen? ⟨b, o + j, none⟩ = false) :
    (Builtin.clear_ #[t] ty #[.slice (some ⟨b, o, none⟩) n c]).run P w = .ok (.tuple #[]) (w.setCells b o (zeros (n * s))) := by
  have hzc := zeroCells_flat hz n
  have hst := run_storeCells_cells (P := P) b o (zeros (n * s)) 0 w (by simpa [zeros_length] using hc) (by simpa [zeros_length] using hf) (by intro v hv'; rw [List.eq_of_mem_replicate hv']; rfl)
  simp only [Nat.add_zero] at hst
  obtain ⟨m, rfl⟩ : ∃ m, n = m + 1 := ⟨n - 1, by omega⟩
  simp [Builtin.clear_, run_underlying ht, hv, hzc, hst]
/-- 'copy' of k elements of s cells each. -/
theorem run_copy_flat {P : Program} (w : World) (dT sT ty elem : TypeId) (s k b o dLen dCap : Nat) (a : Addr) (sLen sCap : Nat) (cs : List Value)
    (hu : P.underlying dT = some (.slice elem)) (hs : (P.info? elem).map (·.size) = some s) (hk : k = Nat.min sLen dLen) (hn : cs.length = k * s)
    (hsrc : ∀ j v, cs[j]? = some v → w.cell? (a.add j) = some v) (hc : ∀ j, j < cs.length → (w.cell? ⟨b, o + j, none⟩).isSome = true) (hf : ∀ j, j < cs.length → w.frozen? ⟨b, o + j, none⟩ = false) (h1 : ∀ v ∈ cs, v.oneCell' = true) :
    (Builtin.copy_ #[dT, sT] ty #[.slice (some ⟨b, o, none⟩) dLen dCap, .slice (some a) sLen sCap]).run P w = .ok (goInt k) (w.setCells b o cs) := by
  have hl := run_loadCells_list (P := P) w a cs hsrc
  have hst := run_storeCells_cells (P := P) b o cs 0 w (by simpa using hc) (by simpa using hf) h1
  cases hq : P.info? elem with
  | none => simp [hq] at hs
  | some i =>
    have hi : i.size = s := by simpa [hq] using hs
    simp [Builtin.copy_, run_underlying hu, Builtin.lenOf, Builtin.firstCells, sizeOf, typeInfo, hq, hi, ← hk, ← hn, hl, hst]
theorem wpList_copy_runI {P : Program} (w : World) {ops : Array Oper} {rest : List Oper} {o : Oper} {a : Act} {Q : Exit → Act → World → Prop} (hgd : o.guard = none) (d s : Operand) (t t' : TypeId)
    (ho : o.op = .call { callee := .builtin .copy, args := #[d, s], argTypes := #[t, t'] }) (v u : Value) (hd : a.eval d = v) (hs : a.eval s = u) {v' : Value} {w' : World}
    (hr : (Builtin.copy_ #[t, t'] o.type #[v, u]).run P w = .ok v' w') (h : wpList P ops Q rest (a.put o.dst v') w') : wpList P ops Q (o :: rest) a w := by
  refine wpList_plain hgd fun _ hK => ?_
  unfold Oper.wp execOp
  simp only [ho, resolve, invoke, builtin, Sem.run_bind, Sem.run_pure, Result.andThen_ok, List.map_toArray, List.map_cons, List.map_nil, hd, hs, hr]
  exact hK _ _ h
theorem step_copy_runI {P : Program} {ops : Array Oper} {o : Oper} {a : Act} {w : World} {K : Act → World → Prop} {Q : Exit → Act → World → Prop} {E : Prop}
    (hg : o.guard = none) (d x : Operand) (dT sT : TypeId) (hop : o.op = Op.call { callee := Callee.builtin Builtin.copy, args := #[d, x], argTypes := #[dT, sT] })
    (v u : Value) (hd : a.eval d = v) (hx : a.eval x = u) {v' : Value} {w' : World} (hr : (Builtin.copy_ #[dT, sT] o.type #[v, u]).run P w = .ok v' w') (hK : K (a.put o.dst v') w') :
    if Region.wanted o (yielded ops a.tmps) = true then Oper.wp P o a w K Q else E := by
  have hw : Region.wanted o (yielded ops a.tmps) = true := by simp [Region.wanted, hg]
  rw [if_pos hw]
  unfold Oper.wp
  simp [execOp, hop, resolve, invoke, builtin, hd, hx, hr, Result.andThen]
  exact hK
theorem Blk.shape {w : World} {g : Nat} {e : TypeId} {cs : Array Value} (h : Blk w g e cs) : w.shape? g = some (e, cs.size) := by
  unfold Blk at h
  simp [World.shape?, h]
/-- zs with vs laid in at place o. -/
theorem ins_getD (zs vs : List Int) (o t : Nat) (ho : o ≤ zs.length) : (zs.take o ++ vs ++ zs.drop o).getD t 0 = if t < o then zs.getD t 0 else if t < o + vs.length then vs.getD (t - o) 0 else zs.getD (t - vs.length) 0 := by
  have hl : (zs.take o).length = o := by simp; omega
  split
  · rename_i h
    rw [getD_append_l _ _ _ (by rw [List.length_append]; omega), getD_append_l _ _ _ (by omega), getD_take _ _ _ h]
  · split
    · rename_i h1 h2
      rw [getD_append_l _ _ _ (by rw [List.length_append]; omega), getD_append_r _ _ _ (by omega), hl]
    · rename_i h1 h2
      rw [getD_append_r _ _ _ (by rw [List.length_append]; omega), List.length_append, hl, getD_drop]
      congr 1
      omega
end Go.Proofs.YtokklkmibjpjnaaGreat
namespace Go.Proofs.YtokklkmibjpjnaaGreat
set_option linter.unusedSimpArgs false
set_option linter.unusedVariables false
attribute [local go_sem] n_lt2 n_lt3 n_lt4 n_le2 n_le3
open Go.RowKit

theorem calls_named {P : Program} {f : FuncId} {args : Array Value} {w : World} {Q : Ending → World → Prop} (h : ∀ w', w' = w → Calls P f args w' Q) : Calls P f args w Q := h w rfl
end Go.Proofs.YtokklkmibjpjnaaGreat
namespace Go.Proofs.YtokklkmibjpjnaaGreat
set_option linter.unusedSimpArgs false
set_option linter.unusedVariables false
attribute [local go_sem] n_lt2 n_lt3 n_lt4 n_le2 n_le3
open Go.RowKit
theorem Blk.new_at (w : World) (e : TypeId) (cs : Array Value) (g : Nat) (hg : g = w.heap.size) : Blk (w.alloc (.cells cs e)) g e cs := by
  subst hg
  exact Blk.new w e cs
theorem Row.alloc {w : World} {lo : Nat} {e : TypeId} {s : Nat} {A : Option Addr} {n cap : Nat} {zs : List Int} (h : Row w lo e s A n cap zs) (o : Obj) : Row (w.alloc o) lo e s A n cap zs := World.ownsRow.alloc h o
theorem Row.drew {w : World} {lo : Nat} {e : TypeId} {s : Nat} {A : Option Addr} {n cap : Nat} {zs : List Int} (h : Row w lo e s A n cap zs) : Row w.drew lo e s A n cap zs := h
theorem Row.far {w : World} {lo : Nat} {e : TypeId} {s : Nat} {A : Option Addr} {n cap : Nat} {zs : List Int} (h : Row w lo e s A n cap zs) {p : Addr} (hp : ∀ a, A = some a → a.block ≠ p.block) (u : Value) : Row (w.setCell p u) lo e s A n cap zs :=
  h.keep (fun a ha => Below.heap_setCell w p u a.block (hp a ha))
theorem Sl.alloc {w : World} {s : Nat} {A : Option Addr} {n : Nat} {zs : List Int} (h : Sl w s A n zs) (o : Obj) : Sl (w.alloc o) s A n zs := h.below ((Below.refl _ _).alloc (Nat.le_refl _) o)
theorem Sl.far {w : World} {s : Nat} {A : Option Addr} {n : Nat} {zs : List Int} (h : Sl w s A n zs) {p : Addr} (hp : 0 < n → ∀ a, A = some a → a.block ≠ p.block) (u : Value) : Sl (w.setCell p u) s A n zs := by
  refine ⟨h.1, fun hn => ?_⟩
  obtain ⟨b, off, rfl, hb, hj⟩ := h.2 hn
  refine ⟨b, off, rfl, by simpa [World.setCell] using hb, fun j hjn => ?_⟩
  rw [World.cell?_of_block (Below.heap_setCell w p u b (hp hn _ rfl))]
  exact hj j hjn
theorem size_set (w : World) (p : Addr) (u : Value) : (w.setCell p u).heap.size = w.heap.size := by simp [World.setCell]
theorem Blk.wrote2 {w w' : World} {g p : Nat} {e : TypeId} {cs : Array Value} (h : Blk w g e cs) (hw : Wrote w w' (some ⟨p, 0, none⟩)) (hne : g ≠ p) : Blk w' g e cs :=
  (World.grownBy.block hw g h.lt (by simpa using hne)).trans h
end Go.Proofs.YtokklkmibjpjnaaGreat
namespace Go.Proofs.YtokklkmibjpjnaaGreat
set_option linter.unusedSimpArgs false
set_option linter.unusedVariables false
attribute [local go_sem] n_lt2 n_lt3 n_lt4 n_le2 n_le3
open Go.RowKit

theorem wp_region_tail {P : Program} {id : Nat} {Q : Exit → Act → World → Prop} {a : Act} {w : World} {l : List Oper} (n : Nat) (hm : P.follows .mixedOrders = true) (hB : Region.lexTailB .any l.toArray n = true)
    (h : ∀ w', w' = w.drewN 1 → wpStill P l.toArray w' (fun a' => wpList P l.toArray Q (l.drop n) a' w') (l.take n) a) : (Code.region id l.toArray true).wp P Q a w :=
  wp_region_still_tail n hm hB (h _ rfl)
end Go.Proofs.YtokklkmibjpjnaaGreat
namespace Go.Proofs.YtokklkmibjpjnaaGreat
set_option linter.unusedSimpArgs false
set_option linter.unusedVariables false
attribute [local go_sem] n_lt2 n_lt3 n_lt4 n_le2 n_le3
open Go.RowKit

/-- Only the rows at A and B (and new memory) have been written. -/
structure Wr2 (w w' : World) (A B : Option Addr) : Prop where
  os : w'.os = w.os
  tape : w'.tape = w.tape
  output : w'.output = w.output
  size : w.heap.size ≤ w'.heap.size
  block : ∀ k, k < w.heap.size → (∀ a, A = some a → a.block ≠ k) → (∀ b, B = some b → b.block ≠ k) → w'.heap[k]? = w.heap[k]?
theorem ne_map {A : Option Addr} {k : Nat} (h : ∀ a, A = some a → a.block ≠ k) : some k ≠ A.map (·.block) := by
  cases A with
  | none => simp
  | some a => simp only [Option.map_some, ne_eq, Option.some.injEq]; exact fun e => h a rfl e.symm
theorem Wr2.of {w v v1 w' : World} {A B : Option Addr} (h0 : Below w.heap.size w v) (h1 : Wrote v v1 A) (h2 : Wrote v1 w' B) : Wr2 w w' A B :=
  ⟨h2.os.trans (h1.os.trans h0.os), h2.tape.trans (h1.tape.trans h0.tape), h2.output.trans (h1.output.trans h0.output), Nat.le_trans h0.size (Nat.le_trans h1.size h2.size),
    fun k hk ha hb => ((World.grownBy.block h2 k (Nat.lt_of_lt_of_le (Nat.lt_of_lt_of_le hk h0.size) h1.size) (ne_map hb)).trans (World.grownBy.block h1 k (Nat.lt_of_lt_of_le hk h0.size) (ne_map ha))).trans (h0.block k hk)⟩
theorem Wr2.below {L : Nat} {a w w' : World} {A B : Option Addr} (h : Wr2 w w' A B) (h1 : Below L a w) (hL : L ≤ w.heap.size) (hA : ∀ x, A = some x → L ≤ x.block) (hB : ∀ x, B = some x → L ≤ x.block) : Below L a w' :=
  ⟨h.os.trans h1.os, h.tape.trans h1.tape, h.output.trans h1.output, Nat.le_trans h1.size h.size,
    fun k hk => (h.block k (Nat.lt_of_lt_of_le hk hL) (fun x hx => by have := hA x hx; omega) (fun x hx => by have := hB x hx; omega)).trans (h1.block k hk)⟩
theorem Row.wr2 {w w' : World} {lo : Nat} {e : TypeId} {s : Nat} {O A B : Option Addr} {n cap : Nat} {zs : List Int} (h : Row w lo e s O n cap zs) (hw : Wr2 w w' A B) (h1 : ∀ a b, O = some a → A = some b → a.block ≠ b.block) (h2 : ∀ a b, O = some a → B = some b → a.block ≠ b.block) : Row w' lo e s O n cap zs :=
  h.keep fun a ha => hw.block _ (h.lt a ha) (fun b hb e => h1 a b ha hb e.symm) (fun b hb e => h2 a b ha hb e.symm)
theorem Sl.wr2 {w w' : World} {s : Nat} {O A B : Option Addr} {n : Nat} {zs : List Int} (h : Sl w s O n zs) (hw : Wr2 w w' A B) (h1 : 0 < n → ∀ a b, O = some a → A = some b → a.block ≠ b.block) (h2 : 0 < n → ∀ a b, O = some a → B = some b → a.block ≠ b.block) : Sl w' s O n zs :=
  ⟨h.1, fun hn => by
    obtain ⟨b, off, rfl, hbl, hj⟩ := h.2 hn
    refine ⟨b, off, rfl, Nat.lt_of_lt_of_le hbl hw.size, fun j hjn => ?_⟩
    exact (World.cell?_of_block (a := ⟨b, off + j, none⟩) (hw.block b hbl (fun c hc e => h1 hn _ c rfl hc e.symm) (fun c hc e => h2 hn _ c rfl hc e.symm))).trans (hj j hjn)⟩
theorem Blk.wr2 {w w' : World} {g : Nat} {e : TypeId} {cs : Array Value} {A B : Option Addr} (h : Blk w g e cs) (hw : Wr2 w w' A B) (h1 : ∀ a, A = some a → a.block ≠ g) (h2 : ∀ a, B = some a → a.block ≠ g) : Blk w' g e cs :=
  (hw.block g h.lt h1 h2).trans h
theorem Blk.wroteA {w w' : World} {g : Nat} {e : TypeId} {cs : Array Value} {A : Option Addr} (h : Blk w g e cs) (hw : Wrote w w' A) (h1 : ∀ a, A = some a → a.block ≠ g) : Blk w' g e cs :=
  (World.grownBy.block hw g h.lt (ne_map h1)).trans h
/-- What mark leaves of a struct with two rows. -/
def RetMark2 (w : World) (lo E s : Nat) (A : Option Addr) (n c F t : Nat) (B : Option Addr) (m d : Nat) (k : Int) (e : Ending) (w' : World) : Prop :=
  e = .returned (.int .i64 (k + (n * s : Nat) + (m * t : Nat))) ∧ Row w' lo E s A n c (marks k (n * s)) ∧ Row w' lo F t B m d (marks (k + (n * s : Nat)) (m * t)) ∧ Wr2 w w' A B
end Go.Proofs.YtokklkmibjpjnaaGreat
namespace Go.Proofs.YtokklkmibjpjnaaGreat
set_option linter.unusedSimpArgs false
set_option linter.unusedVariables false
attribute [local go_sem] n_lt2 n_lt3 n_lt4 n_le2 n_le3
open Go.RowKit

theorem wpList_append_row {P : Program} {ops : Array Oper} {rest : List Oper} {o : Oper} {a : Act} {w : World} {Q : Exit → Act → World → Prop} (hgd : o.guard = none) (s x : Operand) (t : TypeId)
    (ho : o.op = .call { callee := .builtin .append, args := #[s, x], argTypes := #[t, t] })
    (e : TypeId) (z : Value) (size bytes : Nat) (ht : P.underlying t = some (.slice e)) (hinfo : (P.info? e).map (fun i => (i.zero, i.size, i.bytes)) = some (some z, size, bytes)) (hzs : z.cells.size = size) (hsz : 0 < size)
    (lo : Nat) (A : Option Addr) (n cap : Nat) (xs : List Int) (hs : a.eval s = .slice A n cap) (hR : Row w lo e size A n cap xs)
    (ad : Addr) (m c : Nat) (news : List Int) (hx : a.eval x = .slice (some ad) m c) (hl : news.length = m * size) (hnews : ∀ j u, (ints news)[j]? = some u → w.cell? (ad.add j) = some u)
    (h63 : n + m ≤ maxLen) (hbytes : (n + m) * bytes ≤ 140737488355328) (hlo : lo ≤ w.heap.size)
    (h : ∀ A' cap' w', Row w' lo e size A' (n + m) cap' (xs ++ news) → Below lo w w' → wpList P ops Q rest (a.put o.dst (.slice A' (n + m) cap')) w') :
    wpList P ops Q (o :: rest) a w := by
  obtain ⟨i, hi, hiz, his, hib⟩ : ∃ i, P.info? e = some i ∧ i.zero = some z ∧ i.size = size ∧ i.bytes = bytes := by
    cases hq : P.info? e with
    | none => rw [hq] at hinfo; simp at hinfo
    | some i =>
      rw [hq] at hinfo
      simp only [Option.map_some, Option.some.injEq, Prod.mk.injEq] at hinfo
      exact ⟨i, rfl, hinfo.1, hinfo.2.1, hinfo.2.2⟩
  refine wpList_append_own_at _ hgd s x t ho lo e i z size bytes ht hi hiz his hib hzs hsz _ n (ints xs) hs hR ad m c (ints news) hx (by rw [ints_length]; exact hl) hnews (ints_oneCell' news) h63 hbytes hlo ?_
  intro v' w' hown hg _ _
  rw [← ints_append] at hown
  have hb : Below lo w w' := (Below.refl lo w).grown hg hlo (fun k hk => by
    cases A with
    | none => simp [Value.ownBlock] at hk
    | some a0 =>
      simp only [Value.ownBlock, Option.some.injEq] at hk
      subst hk
      exact hR.ge a0 rfl)
  rcases hown.2 with ⟨rfl, h0⟩ | ⟨g, c', cur, rfl, _⟩
  · have hn0 : n + m = 0 := h0
    rw [hn0] at h hown
    exact h none 0 w' hown hb
  · exact h _ _ w' hown hb
end Go.Proofs.YtokklkmibjpjnaaGreat
namespace Go.Proofs.YtokklkmibjpjnaaGreat
set_option linter.unusedSimpArgs false
set_option linter.unusedVariables false
attribute [local go_sem] n_lt2 n_lt3 n_lt4 n_le2 n_le3
open Go.RowKit Go.ChangeShapes Go.WideShapes Go.ChangeAt Go.Deep
theorem wrote_drewN {w w' : World} {A : Option Addr} (h : Wrote w w' A) (k : Nat) : Wrote w (w'.drewN k) A := ⟨h.os, h.tape, h.output, h.size, h.block⟩
theorem wrote_refl (w : World) (A : Option Addr) : Wrote w w A := World.grownBy.refl _ _
theorem wrote_below {w w' : World} (h : Below w.heap.size w w') (A : Option Addr) : Wrote w w' A := ⟨h.os, h.tape, h.output, h.size, fun i hi _ => h.block i hi⟩
theorem wrote_then {w a b : World} {p : Nat} (h : Wrote w a (some ⟨p, 0, none⟩)) (hb : Below a.heap.size a b) : Wrote w b (some ⟨p, 0, none⟩) :=
  ⟨hb.os.trans h.os, hb.tape.trans h.tape, hb.output.trans h.output, Nat.le_trans h.size hb.size, fun i hi hn => (hb.block i (Nat.lt_of_lt_of_le hi h.size)).trans (h.block i hi hn)⟩
theorem wrote_trans {w a b : World} {p : Nat} (h : Wrote w a (some ⟨p, 0, none⟩)) (hb : Wrote a b (some ⟨p, 0, none⟩)) : Wrote w b (some ⟨p, 0, none⟩) :=
  ⟨hb.os.trans h.os, hb.tape.trans h.tape, hb.output.trans h.output, Nat.le_trans h.size hb.size, fun i hi hn => (hb.block i (Nat.lt_of_lt_of_le hi h.size) hn).trans (h.block i hi hn)⟩
theorem wrote_setp {w w' : World} {p : Nat} (h : Wrote w w' (some ⟨p, 0, none⟩)) (o : Nat) (u : Value) : Wrote w (w'.setCell ⟨p, o, none⟩ u) (some ⟨p, 0, none⟩) := wrote_set (p := ⟨p, o, none⟩) h rfl u

/-- The slice value '.slice A n _' reads as the bytes bs. -/
def SlB (w : World) (A : Option Addr) (n : Nat) (bs : List Int) : Prop :=
  bs.length = n ∧ (∀ x ∈ bs, 0 ≤ x ∧ x < 256) ∧ (0 < n → ∃ b off, A = some ⟨b, off, none⟩ ∧ b < w.heap.size ∧ ∀ j, j < n → w.cell? ⟨b, off + j, none⟩ = some (.int .u8 (bs.getD j 0)))
theorem SlB.below {w w' : World} {A : Option Addr} {n : Nat} {bs : List Int} (h : SlB w A n bs) (hb : Below w.heap.size w w') : SlB w' A n bs :=
  ⟨h.1, h.2.1, fun hn => by
    obtain ⟨b, off, rfl, hbl, hj⟩ := h.2.2 hn
    exact ⟨b, off, rfl, Nat.lt_of_lt_of_le hbl hb.size, fun j hjn => (hb.cell hbl).trans (hj j hjn)⟩⟩
theorem SlB.range {w : World} {A : Option Addr} {n : Nat} {bs : List Int} (h : SlB w A n bs) (j : Nat) : 0 ≤ bs.getD j 0 ∧ bs.getD j 0 < 256 := by
  by_cases hj : j < bs.length
  · have := h.2.1 _ (List.getElem_mem hj)
    simpa [List.getD, hj] using this
  · simp [List.getD, List.getElem?_eq_none (by omega : bs.length ≤ j)]
section
variable {H : Type} {enc : TypeId × Value → H} {P : Program} {w : World} {base : Nat} {spare : Nat → Bool} {held : Bool}
/-- An argument of bytes. -/
theorem open_bytes {r : Reach} {b0 : Nat} {t e : TypeId} {v : Value} {d : DataW H} {p : List MemPlace} (ht : P.underlying t = some (.slice e)) (he : P.underlying e = some (.int .u8)) (hs : P.cellsOf e = 1)
    (hv : Value.okWide P w r b0 t v) (h : DataW.Trod enc P w base spare held t v d p) : ∃ A n cap bs, v = .slice A n cap ∧ SlB w A n bs ∧ n ≤ cap ∧ cap ≤ maxLen := by
  obtain ⟨a, len, cap, rfl⟩ := okWide_slice ht hv
  obtain ⟨fuel, hf⟩ := h
  rcases open_ints ht he hs hf with ⟨h1, _⟩ | ⟨a', len', cap', zs, h1, _, hl, hm, hzl, _, hcell, hwf⟩
  · have e : Value.slice a len cap = .slice none 0 0 := by simpa [Value.cells] using h1
    exact ⟨none, 0, 0, [], e, ⟨rfl, by simp, fun h => absurd h (by omega)⟩, Nat.le_refl _, by simp⟩
  · have e : Value.slice a len cap = .slice (some a') len' cap' := by simpa [Value.cells] using h1
    have hle : len' ≤ zs.length := by rw [hzl]; split <;> omega
    obtain ⟨b, off, spot⟩ := a'
    have hbs : (zs.take len').length = len' := by simp; omega
    have hc : ∀ j, j < len' → w.cell? ((⟨b, off, spot⟩ : Addr).add j) = some (.int .u8 ((zs.take len').getD j 0)) := fun j hj => by
      rw [hcell j (by omega)]
      simp [List.getD, List.getElem?_take, hj]
    by_cases hn : len' = 0
    · subst hn
      exact ⟨_, 0, cap', [], e, ⟨rfl, by simp, fun h => absurd h (by omega)⟩, hl, hm⟩
    · have h0 := hc 0 (by omega)
      have hspot : spot = none := by simpa [Addr.add] using World.cell?_spot h0
      subst hspot
      have hblk : b < w.heap.size := by
        rw [Go.WideShapes.add_plain] at h0
        exact World.block_lt_of_cell? w ⟨b, off + 0, none⟩ h0
      refine ⟨some ⟨b, off, none⟩, len', cap', zs.take len', e, ⟨hbs, fun x hx => ?_, fun _ => ⟨b, off, rfl, hblk, fun j hj => by rw [← Go.WideShapes.add_plain]; exact hc j hj⟩⟩, hl, hm⟩
      have := hwf x (List.mem_of_mem_take hx)
      simp [Lit.wf, IntKind.min, IntKind.max, IntKind.signed, IntKind.bits] at this
      omega
end
attribute [local go_sem] Ext.cell Ext.frozen

/-- Block p is a dice over the bytes. -/
def Dice (w : World) (p D : Nat) (A : Option Addr) (n cap : Nat) : Prop := ∃ (i : Nat) (h : Int), i ≤ n ∧ Blk w p D #[.slice A n cap, .int .i64 (i : Nat), .int .u64 h]
theorem u64_lt (x : Int) : IntKind.u64.wrap x < 18446744073709551616 := by rw [IntKind.wrap_u64]; omega
theorem dice_range (h : Int) (h0 : 0 ≤ h) (h1 : h < 18446744073709551616) : 0 ≤ wrap64 (bits BinOp.and IntKind.u64 (h / 8589934592) 16777215) ∧ wrap64 (bits BinOp.and IntKind.u64 (h / 8589934592) 16777215) ≤ 16777215 := by
  rw [u64_and (h / 8589934592) 16777215 (by omega) (by omega) (by omega) (by omega)]
  have hle : ((h / 8589934592).toNat &&& (16777215 : Int).toNat) ≤ 16777215 := Nat.and_le_right
  unfold wrap64
  omega
set_option maxRecDepth 100000 in
set_option maxHeartbeats 1600000 in
theorem below_dice (p n cap : Nat) (A : Option Addr) (bs : List Int) (m : Int) (w : World) (hD : Dice w p 93 A n cap) (hS : SlB w A n bs) (hn : n ≤ maxLen) (hm : 0 < m) (hp : 0 < n → ∀ a, A = some a → a.block ≠ p) :
    Calls Tryz.prog 19 #[.pointer (some ⟨p, 0, none⟩), .int .i64 m] w fun e w' => ∃ x, e = .returned (.int .i64 x) ∧ 0 ≤ x ∧ x < m ∧ Dice w' p 93 A n cap ∧ Wrote w w' (some ⟨p, 0, none⟩) := by
  obtain ⟨i, h, hi, K⟩ := hD
  obtain ⟨q0, q1, q2⟩ := bc3 K
  have qf1 := K.frozen 1
  have qf2 := K.frozen 2
  have HK := Lib.hid K
  unfold maxLen at hn
  clear K
  have hx := dice_range (IntKind.u64.wrap (IntKind.u64.wrap (h * 6364136223846793005) + 1442695040888963407)) (wrap_u64_nonneg _) (u64_lt _)
  by_cases hin : i < n
  · obtain ⟨b, off, rfl, hb, hcell⟩ := hS.2.2 (by omega)
    have hc := hcell i hin
    have hr := hS.range i
    have hbp : b ≠ p := hp (by omega) _ rfl
    have hbp' : p ≠ b := Ne.symm hbp
    generalize bs.getD i 0 = y at hc hr
    obtain ⟨hy0, hy1⟩ := hr
    clear hcell
    have hi' : (i : Int) < (n : Int) := by omega
    have hdi : decide ((i : Int) < (n : Int)) = true := decide_eq_true hi'
    go_enter Tryz.func19, Tryz.ntmps19
    go_wp2
    generalize hgx : wrap64 (bits BinOp.and IntKind.u64 (IntKind.u64.wrap (IntKind.u64.wrap (h * 6364136223846793005) + 1442695040888963407) / 8589934592) 16777215) = x at hx
    generalize (bits BinOp.and IntKind.u64 (IntKind.u64.wrap (IntKind.u64.wrap (h * 6364136223846793005) + 1442695040888963407) / 8589934592) 16777215) = x1
    generalize (IntKind.u64.wrap (IntKind.u64.wrap (h * 6364136223846793005) + 1442695040888963407) / 8589934592) = x2
    generalize IntKind.u64.wrap (IntKind.u64.wrap (h * 6364136223846793005) + 1442695040888963407) = h2
    generalize IntKind.u64.wrap (h * 6364136223846793005) = h3
    clear hgx
    obtain ⟨hx0, hx1⟩ := hx
    have hw1 : IntKind.i64.wrap (x + y) = x + y := by simp [IntKind.wrap, IntKind.bits, IntKind.signed]; omega
    have hw2 : IntKind.i64.wrap y = y := by simp [IntKind.wrap, IntKind.bits, IntKind.signed]; omega
    go_quiet (fail)
    go_wp2
    go_quiet (fail)
    go_wp2
    go_ret
    refine ⟨(x + y) % m, rfl, Int.emod_nonneg _ (by omega), Int.emod_lt_of_pos _ hm, ⟨i + 1, h2, by omega, ?_⟩, ?_⟩
    · exact Blk.set_ (Blk.set_ HK.out 2 (.int .u64 h2)) 1 (.int .i64 ((i : Int) + 1))
    · exact wrote_setp (wrote_drewN (wrote_setp (wrote_refl _ _) _ _) _) _ _
  · have hi' : ¬ (i : Int) < (n : Int) := by omega
    have hdi : decide ((i : Int) < (n : Int)) = false := decide_eq_false hi'
    go_enter Tryz.func19, Tryz.ntmps19
    go_wp2
    generalize hgx : wrap64 (bits BinOp.and IntKind.u64 (IntKind.u64.wrap (IntKind.u64.wrap (h * 6364136223846793005) + 1442695040888963407) / 8589934592) 16777215) = x at hx
    generalize (bits BinOp.and IntKind.u64 (IntKind.u64.wrap (IntKind.u64.wrap (h * 6364136223846793005) + 1442695040888963407) / 8589934592) 16777215) = x1
    generalize (IntKind.u64.wrap (IntKind.u64.wrap (h * 6364136223846793005) + 1442695040888963407) / 8589934592) = x2
    generalize IntKind.u64.wrap (IntKind.u64.wrap (h * 6364136223846793005) + 1442695040888963407) = h2
    generalize IntKind.u64.wrap (h * 6364136223846793005) = h3
    clear hgx
    obtain ⟨hx0, hx1⟩ := hx
    go_quiet (fail)
    go_wp2
    go_ret
    refine ⟨x % m, rfl, Int.emod_nonneg _ (by omega), Int.emod_lt_of_pos _ hm, ⟨i, h2, by omega, ?_⟩, ?_⟩
    · exact Blk.set_ HK.out 2 (.int .u64 h2)
    · exact wrote_drewN (wrote_setp (wrote_refl _ _) _ _) _
theorem big_any (A : Option Addr) (n cap : Nat) (w : World) (hn : n ≤ maxLen) :
    Calls Tryz.prog 16 #[.slice A n cap] w fun e w' => e = .returned (.bool (decide (4096 < n))) ∧ w = w' := by
  unfold maxLen at hn
  go_enter Tryz.func16, Tryz.ntmps16
  go_wp2
  go_ret
  exact ⟨ret_bool (by by_cases h : 4096 < n <;> simp [h] <;> omega), rfl⟩
set_option maxRecDepth 100000 in
set_option maxHeartbeats 1600000 in
theorem roll_any (A : Option Addr) (n cap : Nat) (bs : List Int) (seed : Int) (w : World) (hS : SlB w A n bs) (hn : n ≤ 4096) (hs : 0 ≤ seed ∧ seed ≤ 100000) :
    Calls Tryz.prog 17 #[.slice A n cap, .int .u64 seed] w fun e w' => e = .returned (.pointer (some ⟨w.heap.size, 0, none⟩)) ∧ Dice w' w.heap.size 93 A n cap ∧ Below w.heap.size w w' := by
  obtain ⟨hs0, hs1⟩ := hs
  have HS := Lib.hid hS
  clear hS
  go_enter Tryz.func17, Tryz.ntmps17
  go_wp2
  go_loopw [6] (fun i wr => ∃ (k : Nat) (h : Int), k ≤ n ∧ i = .int .i64 (k : Nat) ∧ Blk wr w.heap.size 93 #[.slice A n cap, .int .i64 0, .int .u64 h] ∧ Below w.heap.size w wr) (fun i _ => n - (intOf i).toNat)
  case atStart => exact ⟨0, _, Nat.zero_le _, rfl, Blk.new _ _ _, (Below.refl _ _).alloc (Nat.le_refl _) _⟩
  case round =>
    obtain ⟨k, h, hk, rfl, K, hbl⟩ := hrel
    by_cases hlt : k < n
    · obtain ⟨b, off, rfl, hb, hcell⟩ := HS.out.2.2 (by omega)
      have hc := hcell k hlt
      have hr := HS.out.range k
      generalize bs.getD k 0 = y at hc hr
      obtain ⟨hy0, hy1⟩ := hr
      rw [← hbl.cell (by exact hb)] at hc
      clear hcell
      have hlt' : (k : Int) < (n : Int) := by omega
      have q0 : wr.cell? ⟨w.heap.size, 0, none⟩ = some (.slice (some ⟨b, off, none⟩) n cap) := K.cell 0
      have q2 : wr.cell? ⟨w.heap.size, 2, none⟩ = some (.int .u64 h) := K.cell 2
      have qf2 := K.frozen 2
      have HK := Lib.hid K
      have hbp : b ≠ w.heap.size := by omega
      have hbp' : w.heap.size ≠ b := by omega
      clear K
      go_wp2
      refine wp_region_tail 15 (by kernel_rfl) (by kernel_rfl) ?_
      intro wt hwt
      have K2 : Blk wt w.heap.size 93 #[.slice (some ⟨b, off, none⟩) n cap, .int .i64 0, .int .u64 h] := by rw [hwt]; exact HK.out
      have b2 : Below w.heap.size w wt := by rw [hwt]; exact below_drewN hbl _
      have hc2 : wt.cell? ⟨b, off + k, none⟩ = some (.int .u8 y) := by rw [hwt]; exact hc
      clear hwt q0 q2 qf2 hc
      have q0 : wt.cell? ⟨w.heap.size, 0, none⟩ = some (.slice (some ⟨b, off, none⟩) n cap) := K2.cell 0
      have q2 : wt.cell? ⟨w.heap.size, 2, none⟩ = some (.int .u64 h) := K2.cell 2
      have qf2 := K2.frozen 2
      have HK2 := Lib.hid K2
      clear K2
      simp only [List.take_succ_cons, List.take_zero, List.drop_succ_cons, List.drop_zero]
      repeat still_step
      refine wpStill_nil ?_
      go_wp2
      refine ⟨⟨k + 1, _, by omega, by go_num, HK2.out.set_ 2 _, b2.setCell (Nat.le_refl _) _⟩, by simp [intOf]; omega⟩
    · go_wp2
      go_ret
      exact ⟨rfl, ⟨0, h, Nat.zero_le _, K⟩, hbl⟩
theorem wrote_grow {w a b : World} {p lo : Nat} (h : Wrote w a (some ⟨p, 0, none⟩)) (hb : Below lo a b) (hlo : w.heap.size ≤ lo) : Wrote w b (some ⟨p, 0, none⟩) :=
  ⟨hb.os.trans h.os, hb.tape.trans h.tape, hb.output.trans h.output, Nat.le_trans h.size hb.size, fun i hi hn => (hb.block i (Nat.lt_of_lt_of_le hi hlo)).trans (h.block i hi hn)⟩
theorem SlB.keep {w w' : World} {A : Option Addr} {n : Nat} {bs : List Int} (h : SlB w A n bs) (hs : w.heap.size ≤ w'.heap.size) (hk : 0 < n → ∀ a, A = some a → w'.heap[a.block]? = w.heap[a.block]?) : SlB w' A n bs :=
  ⟨h.1, h.2.1, fun hn => by
    obtain ⟨b, off, rfl, hbl, hj⟩ := h.2.2 hn
    exact ⟨b, off, rfl, Nat.lt_of_lt_of_le hbl hs, fun j hjn => (World.cell?_of_block (a := ⟨b, off + j, none⟩) (hk hn ⟨b, off, none⟩ rfl)).trans (hj j hjn)⟩⟩

/-- Block p is a dice over bytes that lie ahead of it. -/
def DC (w : World) (p D : Nat) : Prop := ∃ (A : Option Addr) (n cap : Nat) (bs : List Int), n ≤ maxLen ∧ SlB w A n bs ∧ (0 < n → ∀ a, A = some a → a.block < p) ∧ Dice w p D A n cap
theorem Dice.lt {w : World} {p D : Nat} {A : Option Addr} {n cap : Nat} (h : Dice w p D A n cap) : p < w.heap.size := by
  obtain ⟨i, x, _, K⟩ := h
  exact K.lt
theorem DC.lt {w : World} {p D : Nat} (h : DC w p D) : p < w.heap.size := by
  obtain ⟨A, n, cap, bs, _, _, _, K⟩ := h
  exact K.lt
theorem DC.keep {w w' : World} {p D : Nat} (h : DC w p D) (hs : w.heap.size ≤ w'.heap.size) (hk : ∀ i, i ≤ p → w'.heap[i]? = w.heap[i]?) : DC w' p D := by
  obtain ⟨A, n, cap, bs, hn, hS, hA, i, x, hi, K⟩ := h
  exact ⟨A, n, cap, bs, hn, hS.keep hs (fun hn a ha => hk _ (Nat.le_of_lt (hA hn a ha))), hA, i, x, hi, (hk p (Nat.le_refl _)).trans K⟩
theorem DC.below {w w' : World} {p D : Nat} (h : DC w p D) {lo : Nat} (hb : Below lo w w') (hp : p < lo) : DC w' p D :=
  h.keep hb.size (fun i hi => hb.block i (by omega))
theorem DC.new {w w' : World} {p D : Nat} (h : DC w p D) (hb : Below w.heap.size w w') : DC w' p D := h.below hb h.lt
theorem DC.far {w : World} {p D : Nat} (h : DC w p D) {q : Addr} (hq : p < q.block) (u : Value) : DC (w.setCell q u) p D :=
  h.keep (by simp) (fun i hi => Below.heap_setCell w q u i (by omega))
theorem DC.alloc {w : World} {p D : Nat} (h : DC w p D) (o : Obj) : DC (w.alloc o) p D := h.new ((Below.refl _ _).alloc (Nat.le_refl _) o)
theorem DC.drew {w : World} {p D : Nat} (h : DC w p D) : DC w.drew p D := h
theorem DC.wrote {w w' : World} {p D : Nat} {A : Option Addr} (h : DC w p D) (hw : Wrote w w' A) (hA : ∀ a, A = some a → p < a.block) : DC w' p D :=
  h.keep hw.size (fun i hi => World.grownBy.block hw i (Nat.lt_of_le_of_lt hi h.lt) (by
    cases A with
    | none => simp
    | some a => simp only [Option.map_some, ne_eq, Option.some.injEq]; have := hA a rfl; omega))
/-- A throw of the dice. -/
def Threw (w : World) (p D : Nat) (m : Int) (e : Ending) (w' : World) : Prop := ∃ x, e = .returned (.int .i64 x) ∧ (0 ≤ x ∧ x < m) ∧ DC w' p D ∧ Wrote w w' (some ⟨p, 0, none⟩)
theorem rowd {w w' : World} {lo E s : Nat} {A : Option Addr} {n c p : Nat} {zs : List Int} (R : Row w lo E s A n c zs) (hw : Wrote w w' (some ⟨p, 0, none⟩)) (hp : p < lo) : Row w' lo E s A n c zs :=
  R.wrote hw (fun a b ha hb => by obtain rfl := Option.some.inj hb; have := R.ge a ha; simp; omega)
theorem below_dc (p : Nat) (m : Int) (w : World) (hD : DC w p 93) (hm : 0 < m) : Calls Tryz.prog 19 #[.pointer (some ⟨p, 0, none⟩), .int .i64 m] w (Threw w p 93 m) := by
  obtain ⟨A, n, cap, bs, hn, hS, hA, hd⟩ := hD
  refine (below_dice p n cap A bs m w hd hS hn hm (fun h a ha => Nat.ne_of_lt (hA h a ha))).mono ?_
  rintro e w' ⟨x, rfl, x0, x1, hd', hw⟩
  refine ⟨x, rfl, ⟨x0, x1⟩, ⟨A, n, cap, bs, hn, hS.keep hw.size (fun hn' a ha => World.grownBy.block hw _ ?_ ?_), hA, hd'⟩, hw⟩
  · obtain ⟨b, off, hA', hb, _⟩ := hS.2.2 hn'
    rw [ha] at hA'
    obtain rfl := Option.some.inj hA'
    exact hb
  · have := hA hn' a ha
    simp only [Option.map_some, ne_eq, Option.some.injEq]
    omega
theorem roll_dc (A : Option Addr) (n cap : Nat) (bs : List Int) (seed : Int) (w : World) (hS : SlB w A n bs) (hn : n ≤ 4096) (hs : 0 ≤ seed ∧ seed ≤ 100000) :
    Calls Tryz.prog 17 #[.slice A n cap, .int .u64 seed] w fun e w' => e = .returned (.pointer (some ⟨w.heap.size, 0, none⟩)) ∧ DC w' w.heap.size 93 ∧ Below w.heap.size w w' := by
  refine (roll_any A n cap bs seed w hS hn hs).mono ?_
  rintro e w' ⟨rfl, hd, hb⟩
  refine ⟨rfl, ⟨A, n, cap, bs, by unfold maxLen; omega, hS.below hb, fun hn' a ha => ?_, hd⟩, hb⟩
  obtain ⟨b, off, hA', hl, _⟩ := hS.2.2 hn'
  rw [ha] at hA'
  obtain rfl := Option.some.inj hA'
  exact hl
end Go.Proofs.YtokklkmibjpjnaaGreat
namespace Go.Proofs.YtokklkmibjpjnaaGreat
set_option linter.unusedSimpArgs false
set_option linter.unusedVariables false
attribute [local go_sem] n_lt2 n_lt3 n_lt4 n_le2 n_le3
open Go.RowKit

def jobB (a b c d e : Int) : Bool := inB a 1 20 && (inB b 0 1000000 && (inB c 0 9 && (inB d 0 999 && inB e 0 2000)))
set_option maxHeartbeats 400000 in
theorem jobOk_any (a b c d e : Int) (w : World) :
    Calls Tryz.prog 90 #[.agg #[.int .i64 a, .int .i64 b, .int .i64 c, .int .i64 d, .int .i64 e]] w fun e' w' => e' = .returned (.bool (jobB a b c d e)) ∧ Below w.heap.size w w' := by
  go_enter Tryz.func90, Tryz.ntmps90
  go_wp2_with (first | (go_at_call 114; refine (idOk_any _ _).mono ?_; rintro e w' ⟨rfl, rfl⟩) | (go_at_call 75; refine (timeOk_any _ _).mono ?_; rintro e w' ⟨rfl, rfl⟩) | (go_at_call 88; refine (keyOk_any _ _).mono ?_; rintro e w' ⟨rfl, rfl⟩) | (go_at_call 89; refine (valueOk_any _ _).mono ?_; rintro e w' ⟨rfl, rfl⟩) | (go_at_call 74; refine (between_any _ _ _ _).mono ?_; rintro e w' ⟨rfl, rfl⟩))
  all_goals (go_ret; unfold jobB; exact ⟨by simp [*], (Below.refl _ _).alloc (Nat.le_refl _) _⟩)
set_option maxHeartbeats 400000 in
theorem specJobOk_any (a b c d e : Int) (w : World) :
    Calls Tryz.prog 68 #[.agg #[.int .i64 a, .int .i64 b, .int .i64 c, .int .i64 d, .int .i64 e]] w fun e' w' => e' = .returned (.bool (jobB a b c d e)) ∧ Below w.heap.size w w' := by
  go_enter Tryz.func68, Tryz.ntmps68
  go_wp2_with ((go_at_call 60; refine (l1In_any _ _ _ _).mono ?_; rintro e w' ⟨rfl, rfl⟩))
  all_goals (go_ret; unfold jobB; exact ⟨by simp [*], (Below.refl _ _).alloc (Nat.le_refl _) _⟩)
end Go.Proofs.YtokklkmibjpjnaaGreat
namespace Go.Proofs.YtokklkmibjpjnaaGreat
set_option linter.unusedSimpArgs false
set_option linter.unusedVariables false
attribute [local go_sem] n_lt2 n_lt3 n_lt4 n_le2 n_le3
open Go.RowKit

structure Jb where
  i : Int
  d : Int
  k : Int
  v : Int
  f : Int
instance : Inhabited Jb := ⟨⟨0, 0, 0, 0, 0⟩⟩
/-- A job list, its numbers one behind the other. -/
def JB (l : List Jb) : List Int := l.flatMap fun j => [j.i, j.d, j.k, j.v, j.f]
theorem JB_len (l : List Jb) : (JB l).length = l.length * 5 := flat_len _ 5 l (fun _ _ => rfl)
theorem JB_get (l : List Jb) (i j : Nat) (h : i < l.length) (hj : j < 5) : (JB l).getD (i * 5 + j) 0 = [(l.getD i default).i, (l.getD i default).d, (l.getD i default).k, (l.getD i default).v, (l.getD i default).f].getD j 0 := by
  have := flat_getD (fun j : Jb => [j.i, j.d, j.k, j.v, j.f]) 5 l (fun _ _ => rfl) i j h hj
  have e : l.getD i default = l[i] := by simp [List.getD, h]
  rw [e]
  exact this
theorem JB_of : ∀ (n : Nat) (zs : List Int), zs.length = n * 5 → ∃ l : List Jb, l.length = n ∧ JB l = zs
  | 0, zs, h => ⟨[], rfl, by simpa [JB] using (List.eq_nil_of_length_eq_zero (by omega)).symm⟩
  | n + 1, a :: b :: c :: d :: e :: zs, h => by
    obtain ⟨l, hl, he⟩ := JB_of n zs (by simp at h; omega)
    exact ⟨⟨a, b, c, d, e⟩ :: l, by simp [hl], by rw [← he]; rfl⟩
  | n + 1, [], h => by simp at h
  | n + 1, [_], h => by simp at h; omega
  | n + 1, [_, _], h => by simp at h; omega
  | n + 1, [_, _, _], h => by simp at h; omega
  | n + 1, [_, _, _, _], h => by simp at h; omega
theorem sl_jobs {w : World} {A : Option Addr} {n : Nat} {l : List Jb} (h : Sl w 5 A n (JB l)) (hn : 0 < n) : ∃ b off, A = some ⟨b, off, none⟩ ∧ b < w.heap.size ∧
    ∀ i, i < n → w.cell? ⟨b, off + i * 5, none⟩ = some (.int .i64 (l.getD i default).i) ∧ w.cell? ⟨b, off + i * 5 + 1, none⟩ = some (.int .i64 (l.getD i default).d) ∧ w.cell? ⟨b, off + i * 5 + 2, none⟩ = some (.int .i64 (l.getD i default).k) ∧ w.cell? ⟨b, off + i * 5 + 3, none⟩ = some (.int .i64 (l.getD i default).v) ∧ w.cell? ⟨b, off + i * 5 + 4, none⟩ = some (.int .i64 (l.getD i default).f) := by
  have hl : l.length = n := by
    have := h.len
    rw [JB_len] at this
    omega
  obtain ⟨b, off, hA, hb, hc⟩ := h.at_ hn
  have hg : ∀ i, i < n → ∀ j, j < 5 → w.cell? ⟨b, off + i * 5 + j, none⟩ = some (.int .i64 ([(l.getD i default).i, (l.getD i default).d, (l.getD i default).k, (l.getD i default).v, (l.getD i default).f].getD j 0)) := fun i hi j hj => by
    rw [Nat.add_assoc, hc (i * 5 + j) (by omega), JB_get l i j (by omega) hj]
  exact ⟨b, off, hA, hb, fun i hi => ⟨hg i hi 0 (by decide), hg i hi 1 (by decide), hg i hi 2 (by decide), hg i hi 3 (by decide), hg i hi 4 (by decide)⟩⟩

def jobOkB (j : Jb) : Bool := jobB j.i j.d j.k j.v j.f
def firedBefore (l : List Jb) (i : Nat) (x : Int) : Bool := (List.range i).any (fun k => decide ((l.getD k default).f = x))
def jobAtB (l : List Jb) (i : Nat) : Bool := jobOkB (l.getD i default) && ((decide (i = 0) || decide ((l.getD (i-1) default).i < (l.getD i default).i)) && !(decide (0 < (l.getD i default).f) && firedBefore l i (l.getD i default).f))
def jobsB (l : List Jb) : Bool := decide (l.length ≤ 8) && (List.range l.length).all (jobAtB l)
theorem jobsB_true {l : List Jb} (h8 : l.length ≤ 8) (h : ∀ j, j < l.length → jobAtB l j = true) : jobsB l = true := by
  unfold jobsB; rw [all_range_true h]; simpa using h8
theorem jobsB_false {l : List Jb} {k : Nat} (hk : k < l.length) (h : jobAtB l k = false) : jobsB l = false := by
  unfold jobsB; rw [all_range_false hk h]; simp
theorem jobsB_long {l : List Jb} (h : 8 < l.length) : jobsB l = false := by
  unfold jobsB; simp; intro h'; omega
theorem jobsB_all {l : List Jb} (h : jobsB l = true) : l.length ≤ 8 ∧ ∀ j, j < l.length → jobAtB l j = true := by
  unfold jobsB at h
  simp only [Bool.and_eq_true, decide_eq_true_eq, List.all_eq_true] at h
  exact ⟨h.1, fun j hj => h.2 j (List.mem_range.2 hj)⟩
theorem firedBefore_false {l : List Jb} {i : Nat} {x : Int} (h : ∀ j, j < i → (l.getD j default).f ≠ x) : firedBefore l i x = false := by
  unfold firedBefore
  rw [List.any_eq_false]
  intro j hj
  simpa using h j (List.mem_range.1 hj)
theorem firedBefore_true {l : List Jb} {i j : Nat} {x : Int} (hj : j < i) (h : (l.getD j default).f = x) : firedBefore l i x = true := by
  unfold firedBefore
  rw [List.any_eq_true]
  exact ⟨j, List.mem_range.2 hj, by simpa using h⟩
theorem jobAtB_1 {l : List Jb} {i : Nat} (h : jobOkB (l.getD i default) = false) : jobAtB l i = false := by unfold jobAtB; rw [h]; rfl
theorem jobAtB_2 {l : List Jb} {i : Nat} (h0 : 0 < i) (h : (l.getD i default).i ≤ (l.getD (i-1) default).i) : jobAtB l i = false := by
  unfold jobAtB
  rw [show decide (i = 0) = false from decide_eq_false (by omega), show decide ((l.getD (i-1) default).i < (l.getD i default).i) = false from decide_eq_false (by omega)]
  simp
theorem jobAtB_3 {l : List Jb} {i : Nat} (h0 : 0 < (l.getD i default).f) (h : firedBefore l i (l.getD i default).f = true) : jobAtB l i = false := by
  unfold jobAtB
  rw [h, show decide (0 < (l.getD i default).f) = true by simpa using h0]
  simp
theorem jobAtB_4 {l : List Jb} {i : Nat} (h1 : jobOkB (l.getD i default) = true) (h2 : i = 0 ∨ (l.getD (i-1) default).i < (l.getD i default).i) (h3 : (l.getD i default).f ≤ 0 ∨ firedBefore l i (l.getD i default).f = false) : jobAtB l i = true := by
  unfold jobAtB
  rw [h1]
  have e2 : (decide (i = 0) || decide ((l.getD (i-1) default).i < (l.getD i default).i)) = true := by simpa using h2
  rw [e2]
  rcases h3 with h3 | h3
  · rw [show decide (0 < (l.getD i default).f) = false from decide_eq_false (by omega)]; rfl
  · rw [h3]; simp
theorem jobB_fired {a b c d e : Int} (h : jobB a b c d e = true) : 0 ≤ e ∧ e ≤ 2000 := by
  unfold jobB at h
  simp only [Bool.and_eq_true, inB_iff] at h
  omega
attribute [local go_sem] Ext.cell Ext.frozen

set_option maxHeartbeats 2000000 in
theorem specJobsOk_any (A : Option Addr) (n cap : Nat) (l : List Jb) (w : World) (hS : Sl w 5 A n (JB l)) (hl : l.length = n) (hn : n ≤ maxLen) :
    Calls Tryz.prog 63 #[.slice A n cap] w fun e' w' => e' = .returned (.bool (jobsB l)) ∧ Below w.heap.size w w' := by
  unfold maxLen at hn
  by_cases h8 : 8 < n
  · have hv : jobsB l = false := jobsB_long (by omega)
    have h8' : (8 : Int) < (n : Int) := by omega
    clear hS hl
    go_enter Tryz.func63, Tryz.ntmps63
    go_wp2
    go_ret
    exact ⟨ret_bool hv.symm, Below.refl _ _⟩
  have h8' : (n : Int) ≤ 8 := by omega
  have hL := Lib.hid hl
  have HS := Lib.hid hS
  clear hl hS h8
  go_enter Tryz.func63, Tryz.ntmps63
  go_wp2
  go_loopw [3, 4] (fun i _ wr => ∃ k : Nat, k ≤ n ∧ i = .int .i64 k ∧ Below w.heap.size w wr ∧ Hid (∀ j, j < k → jobAtB l j = true)) (fun i _ _ => n - (intOf i).toNat)
  case atStart => exact ⟨0, Nat.zero_le _, rfl, Below.refl _ _, fun j hj => absurd hj (by omega)⟩
  case round =>
    obtain ⟨k, hk, rfl, hbl, hall⟩ := hrel
    by_cases hlt : k < n
    · obtain ⟨b, off, rfl, hb, hcell⟩ := sl_jobs HS.out (by omega)
      have HC := Lib.hid hcell
      obtain ⟨h0, h1, h2, h3, h4⟩ := hcell k hlt
      have g0 := (hcell (k - 1) (by omega)).1
      clear hcell
      rw [← hbl.cell (by exact hb)] at h0 h1 h2 h3 h4 g0
      generalize hp : l.getD k default = p at h0 h1 h2 h3 h4
      generalize hp0 : l.getD (k - 1) default = p0 at g0
      obtain ⟨x0, x1, x2, x3, x4⟩ := p
      obtain ⟨y0, y1, y2, y3, y4⟩ := p0
      simp only at h0 h1 h2 h3 h4 g0
      have HP := Lib.hid (And.intro hp hp0)
      clear hp hp0
      have hbr : b < wr.heap.size := Nat.lt_of_lt_of_le hb hbl.size
      by_cases hj : jobB x0 x1 x2 x3 x4 = true
      · have hC : ∀ w0, Calls Tryz.prog 68 #[.agg #[.int .i64 x0, .int .i64 x1, .int .i64 x2, .int .i64 x3, .int .i64 x4]] w0 fun e' w' => e' = .returned (.bool true) ∧ Below w0.heap.size w0 w' := fun w0 => by
          have := specJobOk_any x0 x1 x2 x3 x4 w0
          rwa [hj] at this
        have HJ := Lib.hid hj
        clear hj
        by_cases hbad : 0 < k ∧ x0 ≤ y0
        · obtain ⟨hk0, hxy⟩ := hbad
          have hk0' : (0 : Int) < (k : Int) := by omega
          go_wp2
          ((refine wp_region_ext (by kernel_rfl) (by kernel_rfl) ?_); (repeat (any_goals (first | go_big_quiet_step ((go_at_call 68; exact quiet_ext (hC _))) | (refine wpQuiet_step (fun K hK => ?_); go_simp; split <;> (refine hK _ ?_; clear hK K)) | quiet_step ((go_at_call 68; exact quiet_ext (hC _)))))); (all_goals (refine wpQuiet_nil ?_; rintro _ ⟨z, rfl⟩; have hb' := z.h; generalize z.w = w1 at hb' ⊢; clear z; (first | (have hb2 := bstep hb' hb hb.size; clear hb' hcb hfb hz1 hz2 hz3 hz4 hb; have hb := hb2; clear hb2) | (have hb := hb'; clear hb')); obtain ⟨hcb, hfb, hz1, hz2, hz3, hz4⟩ := bcell hb; (try simp only [World.size_alloc, World.size_setCell, World.size_drew, Nat.lt_add_one_iff, Nat.add_assoc, Nat.reduceAdd] at hz1 hz2 hz3 hz4))))
          all_goals go_wp2
          all_goals go_ret
          all_goals exact ⟨ret_bool (jobsB_false (hL.out.symm ▸ hlt) (jobAtB_2 hk0 (by rw [HP.out.1, HP.out.2]; exact hxy))).symm, bstep hb hbl hbl.size⟩
        · have hgood : k = 0 ∨ y0 < x0 := by omega
          have hgz : (0 : Int) < (k : Int) → y0 < x0 := fun h => by omega
          have hbw : b < w.heap.size := hb
          rcases Nat.eq_zero_or_pos k with hk0 | hk0
          · have hk0' : ¬ (0 : Int) < (k : Int) := by omega
            have HK := Lib.hid hk0
            have HG := Lib.hid hgood
            clear hk0 hbad hgood
            go_wp2
            ((refine wp_region_ext (by kernel_rfl) (by kernel_rfl) ?_); (repeat (any_goals (first | go_big_quiet_step ((go_at_call 68; exact quiet_ext (hC _))) | (refine wpQuiet_step (fun K hK => ?_); go_simp; split <;> (refine hK _ ?_; clear hK K)) | quiet_step ((go_at_call 68; exact quiet_ext (hC _)))))); (all_goals (refine wpQuiet_nil ?_; rintro _ ⟨z, rfl⟩; have hb' := z.h; generalize z.w = w1 at hb' ⊢; clear z; (first | (have hb2 := bstep hb' hb hb.size; clear hb' hcb hfb hz1 hz2 hz3 hz4 hb; have hb := hb2; clear hb2) | (have hb := hb'; clear hb')); obtain ⟨hcb, hfb, hz1, hz2, hz3, hz4⟩ := bcell hb; (try simp only [World.size_alloc, World.size_setCell, World.size_drew, Nat.lt_add_one_iff, Nat.add_assoc, Nat.reduceAdd] at hz1 hz2 hz3 hz4))))
            all_goals go_wp2
            have hb1 : Below w.heap.size w w1 := bstep hb hbl hbl.size
            clear h0 h1 h2 h3 h4 g0 hbr
            go_loopw [4] (fun i wq => ∃ m : Nat, m ≤ k ∧ i = .int .i64 m ∧ Below w.heap.size w wq ∧ Hid (∀ j, j < m → x4 ≤ 0 ∨ (l.getD j default).f ≠ x4)) (fun i _ => k - (intOf i).toNat)
            case atStart => exact ⟨0, Nat.zero_le _, rfl, hb1, Lib.hid (fun j hj => absurd hj (by omega))⟩
            case round =>
              obtain ⟨m, hm, rfl, hbq, hmm⟩ := hrel
              by_cases hmk : m < k
              · have e4 : wr.cell? ⟨b, off + k * 5 + 4, none⟩ = some (.int .i64 x4) := by rw [hbq.cell (by exact hbw), (HC.out k hlt).2.2.2.2, HP.out.1]
                have em : wr.cell? ⟨b, off + m * 5 + 4, none⟩ = some (.int .i64 (l.getD m default).f) := by rw [hbq.cell (by exact hbw), (HC.out m (by omega)).2.2.2.2]
                generalize hfm : (l.getD m default).f = fm at em
                have HF := Lib.hid hfm
                clear hfm
                have hbr : b < wr.heap.size := Nat.lt_of_lt_of_le hbw hbq.size
                have hmn : m < n := by omega
                by_cases hx4 : 0 < x4
                · by_cases hfx : fm = x4
                  · have hfx' : (fm == x4) = true := by simpa using hfx
                    go_wp2
                    ((refine wp_region_ext (by kernel_rfl) (by kernel_rfl) ?_); (repeat (any_goals (first | go_big_quiet_step (fail) | (refine wpQuiet_step (fun K hK => ?_); go_simp; split <;> (refine hK _ ?_; clear hK K)) | quiet_step (fail)))); (all_goals (refine wpQuiet_nil ?_; rintro _ ⟨z, rfl⟩; have hb' := z.h; generalize z.w = w1 at hb' ⊢; clear z; (first | (have hb2 := bstep hb' hb hb.size; clear hb' hcb hfb hz1 hz2 hz3 hz4 hb; have hb := hb2; clear hb2) | (have hb := hb'; clear hb')); obtain ⟨hcb, hfb, hz1, hz2, hz3, hz4⟩ := bcell hb; (try simp only [World.size_alloc, World.size_setCell, World.size_drew, Nat.lt_add_one_iff, Nat.add_assoc, Nat.reduceAdd] at hz1 hz2 hz3 hz4))))
                    all_goals go_wp2
                    all_goals go_ret
                    all_goals exact ⟨ret_bool (jobsB_false (hL.out.symm ▸ hlt) (jobAtB_3 (by rw [HP.out.1]; exact hx4) (by rw [HP.out.1]; exact firedBefore_true hmk (by rw [HF.out]; exact hfx)))).symm, bstep hb hbq hbq.size⟩
                  · have hfx' : (fm == x4) = false := by simpa using hfx
                    go_wp2
                    ((refine wp_region_ext (by kernel_rfl) (by kernel_rfl) ?_); (repeat (any_goals (first | go_big_quiet_step (fail) | (refine wpQuiet_step (fun K hK => ?_); go_simp; split <;> (refine hK _ ?_; clear hK K)) | quiet_step (fail)))); (all_goals (refine wpQuiet_nil ?_; rintro _ ⟨z, rfl⟩; have hb' := z.h; generalize z.w = w1 at hb' ⊢; clear z; (first | (have hb2 := bstep hb' hb hb.size; clear hb' hcb hfb hz1 hz2 hz3 hz4 hb; have hb := hb2; clear hb2) | (have hb := hb'; clear hb')); obtain ⟨hcb, hfb, hz1, hz2, hz3, hz4⟩ := bcell hb; (try simp only [World.size_alloc, World.size_setCell, World.size_drew, Nat.lt_add_one_iff, Nat.add_assoc, Nat.reduceAdd] at hz1 hz2 hz3 hz4))))
                    all_goals go_wp2
                    all_goals exact ⟨⟨m + 1, by omega, by go_num, bstep hb hbq hbq.size, Lib.hid (fun j hj => by
                      rcases Nat.lt_or_ge j m with h1 | h1
                      · exact hmm.out j h1
                      · obtain rfl : j = m := by omega
                        exact .inr (by rw [HF.out]; exact hfx))⟩, by simp [intOf]; omega⟩
                · have hx4' : x4 ≤ 0 := by omega
                  clear hx4
                  go_wp2
                  ((refine wp_region_ext (by kernel_rfl) (by kernel_rfl) ?_); (repeat (any_goals (first | go_big_quiet_step (fail) | (refine wpQuiet_step (fun K hK => ?_); go_simp; split <;> (refine hK _ ?_; clear hK K)) | quiet_step (fail)))); (all_goals (refine wpQuiet_nil ?_; rintro _ ⟨z, rfl⟩; have hb' := z.h; generalize z.w = w1 at hb' ⊢; clear z; (first | (have hb2 := bstep hb' hb hb.size; clear hb' hcb hfb hz1 hz2 hz3 hz4 hb; have hb := hb2; clear hb2) | (have hb := hb'; clear hb')); obtain ⟨hcb, hfb, hz1, hz2, hz3, hz4⟩ := bcell hb; (try simp only [World.size_alloc, World.size_setCell, World.size_drew, Nat.lt_add_one_iff, Nat.add_assoc, Nat.reduceAdd] at hz1 hz2 hz3 hz4))))
                  all_goals go_wp2
                  all_goals exact ⟨⟨m + 1, by omega, by go_num, bstep hb hbq hbq.size, Lib.hid (fun j hj => .inl hx4')⟩, by simp [intOf]; omega⟩
              · have hmk' : m = k := by omega
                subst hmk'
                go_wp2
                refine ⟨⟨m + 1, by omega, by go_num, hbq, upto_succ hall.out (jobAtB_4 (by rw [HP.out.1]; exact HJ.out) (by rw [HP.out.1, HP.out.2]; exact HG.out) ?_)⟩, by simp [intOf]; omega⟩
                rw [HP.out.1]
                by_cases hx4 : x4 ≤ 0
                · exact .inl hx4
                · exact .inr (firedBefore_false fun j hj => (hmm.out j hj).resolve_left hx4)
          · have hk0' : (0 : Int) < (k : Int) := by omega
            have hxy : y0 < x0 := by omega
            have hd : decide (x0 ≤ y0) = false := decide_eq_false (by omega)
            have HG := Lib.hid hgood
            clear hbad hgood
            go_wp2
            ((refine wp_region_ext (by kernel_rfl) (by kernel_rfl) ?_); (repeat (any_goals (first | go_big_quiet_step ((go_at_call 68; exact quiet_ext (hC _))) | (refine wpQuiet_step (fun K hK => ?_); go_simp; split <;> (refine hK _ ?_; clear hK K)) | quiet_step ((go_at_call 68; exact quiet_ext (hC _)))))); (all_goals (refine wpQuiet_nil ?_; rintro _ ⟨z, rfl⟩; have hb' := z.h; generalize z.w = w1 at hb' ⊢; clear z; (first | (have hb2 := bstep hb' hb hb.size; clear hb' hcb hfb hz1 hz2 hz3 hz4 hb; have hb := hb2; clear hb2) | (have hb := hb'; clear hb')); obtain ⟨hcb, hfb, hz1, hz2, hz3, hz4⟩ := bcell hb; (try simp only [World.size_alloc, World.size_setCell, World.size_drew, Nat.lt_add_one_iff, Nat.add_assoc, Nat.reduceAdd] at hz1 hz2 hz3 hz4))))
            all_goals go_wp2
            have hb1 : Below w.heap.size w w1 := bstep hb hbl hbl.size
            clear h0 h1 h2 h3 h4 g0 hbr
            go_loopw [4] (fun i wq => ∃ m : Nat, m ≤ k ∧ i = .int .i64 m ∧ Below w.heap.size w wq ∧ Hid (∀ j, j < m → x4 ≤ 0 ∨ (l.getD j default).f ≠ x4)) (fun i _ => k - (intOf i).toNat)
            case atStart => exact ⟨0, Nat.zero_le _, rfl, hb1, Lib.hid (fun j hj => absurd hj (by omega))⟩
            case round =>
              obtain ⟨m, hm, rfl, hbq, hmm⟩ := hrel
              by_cases hmk : m < k
              · have e4 : wr.cell? ⟨b, off + k * 5 + 4, none⟩ = some (.int .i64 x4) := by rw [hbq.cell (by exact hbw), (HC.out k hlt).2.2.2.2, HP.out.1]
                have em : wr.cell? ⟨b, off + m * 5 + 4, none⟩ = some (.int .i64 (l.getD m default).f) := by rw [hbq.cell (by exact hbw), (HC.out m (by omega)).2.2.2.2]
                generalize hfm : (l.getD m default).f = fm at em
                have HF := Lib.hid hfm
                clear hfm
                have hbr : b < wr.heap.size := Nat.lt_of_lt_of_le hbw hbq.size
                have hmn : m < n := by omega
                by_cases hx4 : 0 < x4
                · by_cases hfx : fm = x4
                  · have hfx' : (fm == x4) = true := by simpa using hfx
                    go_wp2
                    ((refine wp_region_ext (by kernel_rfl) (by kernel_rfl) ?_); (repeat (any_goals (first | go_big_quiet_step (fail) | (refine wpQuiet_step (fun K hK => ?_); go_simp; split <;> (refine hK _ ?_; clear hK K)) | quiet_step (fail)))); (all_goals (refine wpQuiet_nil ?_; rintro _ ⟨z, rfl⟩; have hb' := z.h; generalize z.w = w1 at hb' ⊢; clear z; (first | (have hb2 := bstep hb' hb hb.size; clear hb' hcb hfb hz1 hz2 hz3 hz4 hb; have hb := hb2; clear hb2) | (have hb := hb'; clear hb')); obtain ⟨hcb, hfb, hz1, hz2, hz3, hz4⟩ := bcell hb; (try simp only [World.size_alloc, World.size_setCell, World.size_drew, Nat.lt_add_one_iff, Nat.add_assoc, Nat.reduceAdd] at hz1 hz2 hz3 hz4))))
                    all_goals go_wp2
                    all_goals go_ret
                    all_goals exact ⟨ret_bool (jobsB_false (hL.out.symm ▸ hlt) (jobAtB_3 (by rw [HP.out.1]; exact hx4) (by rw [HP.out.1]; exact firedBefore_true hmk (by rw [HF.out]; exact hfx)))).symm, bstep hb hbq hbq.size⟩
                  · have hfx' : (fm == x4) = false := by simpa using hfx
                    go_wp2
                    ((refine wp_region_ext (by kernel_rfl) (by kernel_rfl) ?_); (repeat (any_goals (first | go_big_quiet_step (fail) | (refine wpQuiet_step (fun K hK => ?_); go_simp; split <;> (refine hK _ ?_; clear hK K)) | quiet_step (fail)))); (all_goals (refine wpQuiet_nil ?_; rintro _ ⟨z, rfl⟩; have hb' := z.h; generalize z.w = w1 at hb' ⊢; clear z; (first | (have hb2 := bstep hb' hb hb.size; clear hb' hcb hfb hz1 hz2 hz3 hz4 hb; have hb := hb2; clear hb2) | (have hb := hb'; clear hb')); obtain ⟨hcb, hfb, hz1, hz2, hz3, hz4⟩ := bcell hb; (try simp only [World.size_alloc, World.size_setCell, World.size_drew, Nat.lt_add_one_iff, Nat.add_assoc, Nat.reduceAdd] at hz1 hz2 hz3 hz4))))
                    all_goals go_wp2
                    all_goals exact ⟨⟨m + 1, by omega, by go_num, bstep hb hbq hbq.size, Lib.hid (fun j hj => by
                      rcases Nat.lt_or_ge j m with h1 | h1
                      · exact hmm.out j h1
                      · obtain rfl : j = m := by omega
                        exact .inr (by rw [HF.out]; exact hfx))⟩, by simp [intOf]; omega⟩
                · have hx4' : x4 ≤ 0 := by omega
                  clear hx4
                  go_wp2
                  ((refine wp_region_ext (by kernel_rfl) (by kernel_rfl) ?_); (repeat (any_goals (first | go_big_quiet_step (fail) | (refine wpQuiet_step (fun K hK => ?_); go_simp; split <;> (refine hK _ ?_; clear hK K)) | quiet_step (fail)))); (all_goals (refine wpQuiet_nil ?_; rintro _ ⟨z, rfl⟩; have hb' := z.h; generalize z.w = w1 at hb' ⊢; clear z; (first | (have hb2 := bstep hb' hb hb.size; clear hb' hcb hfb hz1 hz2 hz3 hz4 hb; have hb := hb2; clear hb2) | (have hb := hb'; clear hb')); obtain ⟨hcb, hfb, hz1, hz2, hz3, hz4⟩ := bcell hb; (try simp only [World.size_alloc, World.size_setCell, World.size_drew, Nat.lt_add_one_iff, Nat.add_assoc, Nat.reduceAdd] at hz1 hz2 hz3 hz4))))
                  all_goals go_wp2
                  all_goals exact ⟨⟨m + 1, by omega, by go_num, bstep hb hbq hbq.size, Lib.hid (fun j hj => .inl hx4')⟩, by simp [intOf]; omega⟩
              · have hmk' : m = k := by omega
                subst hmk'
                go_wp2
                refine ⟨⟨m + 1, by omega, by go_num, hbq, upto_succ hall.out (jobAtB_4 (by rw [HP.out.1]; exact HJ.out) (by rw [HP.out.1, HP.out.2]; exact HG.out) ?_)⟩, by simp [intOf]; omega⟩
                rw [HP.out.1]
                by_cases hx4 : x4 ≤ 0
                · exact .inl hx4
                · exact .inr (firedBefore_false fun j hj => (hmm.out j hj).resolve_left hx4)
      · have hj' : jobB x0 x1 x2 x3 x4 = false := by simpa using hj
        have hC : ∀ w0, Calls Tryz.prog 68 #[.agg #[.int .i64 x0, .int .i64 x1, .int .i64 x2, .int .i64 x3, .int .i64 x4]] w0 fun e' w' => e' = .returned (.bool false) ∧ Below w0.heap.size w0 w' := fun w0 => by
          have := specJobOk_any x0 x1 x2 x3 x4 w0
          rwa [hj'] at this
        have HJ := Lib.hid hj'
        clear hj hj'
        go_wp2
        ((refine wp_region_ext (by kernel_rfl) (by kernel_rfl) ?_); (repeat (any_goals (first | go_big_quiet_step ((go_at_call 68; exact quiet_ext (hC _))) | (refine wpQuiet_step (fun K hK => ?_); go_simp; split <;> (refine hK _ ?_; clear hK K)) | quiet_step ((go_at_call 68; exact quiet_ext (hC _)))))); (all_goals (refine wpQuiet_nil ?_; rintro _ ⟨z, rfl⟩; have hb' := z.h; generalize z.w = w1 at hb' ⊢; clear z; (first | (have hb2 := bstep hb' hb hb.size; clear hb' hcb hfb hz1 hz2 hz3 hz4 hb; have hb := hb2; clear hb2) | (have hb := hb'; clear hb')); obtain ⟨hcb, hfb, hz1, hz2, hz3, hz4⟩ := bcell hb; (try simp only [World.size_alloc, World.size_setCell, World.size_drew, Nat.lt_add_one_iff, Nat.add_assoc, Nat.reduceAdd] at hz1 hz2 hz3 hz4))))
        all_goals go_wp2
        all_goals go_ret
        all_goals exact ⟨ret_bool (jobsB_false (hL.out.symm ▸ hlt) (jobAtB_1 (by rw [HP.out.1]; exact HJ.out))).symm, bstep hb hbl hbl.size⟩
    · have hkn : k = n := by omega
      subst hkn
      go_wp2
      go_ret
      exact ⟨ret_bool (jobsB_true (by have := hL.out; omega) (hL.out.symm ▸ hall.out)).symm, hbl⟩
end Go.Proofs.YtokklkmibjpjnaaGreat
namespace Go.Proofs.YtokklkmibjpjnaaGreat
set_option linter.unusedSimpArgs false
set_option linter.unusedVariables false
attribute [local go_sem] n_lt2 n_lt3 n_lt4 n_le2 n_le3
open Go.RowKit Go.Maps Go.WideShapes

theorem ownsMap_below {P : Program} {k : TypeId} {R : Value → Option (DataW Unit × List MemPlace)} {w w' : World} {b n : Nat} {D : DataW Unit} (h : w.ownsMap P k R b n D) (hb : Below w.heap.size w w') : w'.ownsMap P k R b n D := by
  have hlt := h.lt
  obtain ⟨es, clock, hbk, F, hs, hD⟩ := h
  exact ⟨es, clock, (hb.block b hlt).trans hbk, F, hs, hD⟩
theorem plainElem_bool_inv {P : Program} {e : TypeId} (he : P.underlying e = some .bool) {v : Value} {z : DataW Unit × List MemPlace} (h : plainElem P e v = some z) : ∃ u, v = .bool u ∧ z = (.lit (.bool u), []) := by
  unfold plainElem at h
  rw [he] at h
  cases v <;> simp at h
  exact ⟨_, rfl, h.symm⟩

/-- Block b is a map from int64 to bool; what it holds at x is 'u x'. -/
def Marked (P : Program) (K E : TypeId) (w : World) (b n : Nat) (u : Int → Bool) : Prop :=
  ∃ D : DataW Unit, w.ownsMap P K (plainElem P E) b n D ∧ ∀ x, D.atKey (.int .i64 x) (.lit (.bool false)) = .lit (.bool (u x))
theorem Marked.made (w : World) (P : Program) (K E : TypeId) : Marked P K E (w.alloc (.map #[] 0)) w.heap.size 0 (fun _ => false) :=
  ⟨_, World.ownsMap_made w P K _, fun _ => rfl⟩
theorem Marked.lt {P : Program} {K E : TypeId} {w : World} {b n : Nat} {u : Int → Bool} (h : Marked P K E w b n u) : b < w.heap.size := by
  obtain ⟨D, hD, _⟩ := h
  exact hD.lt
theorem Marked.below {P : Program} {K E : TypeId} {w w' : World} {b n : Nat} {u : Int → Bool} (h : Marked P K E w b n u) (hb : Below w.heap.size w w') : Marked P K E w' b n u := by
  obtain ⟨D, hD, ha⟩ := h
  exact ⟨D, ownsMap_below hD hb, ha⟩
theorem wf_small {x : Int} (hx : 0 ≤ x ∧ x ≤ 2000) : (Lit.int .i64 x).wf = true := by
  simp only [Lit.wf, Bool.and_eq_true, decide_eq_true_eq]
  exact ⟨Int.le_trans (show IntKind.min .i64 ≤ 0 by decide) hx.1, Int.le_trans hx.2 (show (2000 : Int) ≤ IntKind.max .i64 by decide)⟩
theorem Marked.look {P : Program} {K E t : TypeId} {w : World} {b n : Nat} {u : Int → Bool} (h : Marked P K E w b n u) (hK : P.underlying K = some (.int .i64)) (hE : P.underlying E = some .bool) (ht : P.underlying t = some (.map K E))
    (hz : (zeroValue E).run P w = .ok (.bool false) w) {x : Int} (hx : 0 ≤ x ∧ x ≤ 2000) : (Instr.lookup t (.map (some b)) (.int .i64 x) false).run P w = .ok (.bool (u x)) w := by
  obtain ⟨D, hD, ha⟩ := h
  obtain ⟨v, ps, hrun, hv⟩ := hD.lookup (int_keyed hK) ht hz (plainElem_bool hE false) (keyOf_int_mk hK (wf_small hx))
  obtain ⟨c, rfl, hc⟩ := plainElem_bool_inv hE hv
  rw [ha x] at hc
  simp only [Prod.mk.injEq, DataW.lit.injEq, Lit.bool.injEq] at hc
  rw [hrun, hc.1]
theorem wpList_mark {P : Program} {w : World} {ops : Array Oper} {rest : List Oper} {o : Oper} {a : Act} {Q : Exit → Act → World → Prop} (hg : o.guard = none) (m x v : Operand) (t : TypeId) (hop : o.op = Op.mapUpdate t m x v)
    (K E : TypeId) (hK : P.underlying K = some (.int .i64)) (hE : P.underlying E = some .bool) (ht : P.underlying t = some (.map K E)) (b n : Nat) (u : Int → Bool)
    (hm : a.eval m = .map (some b)) (hown : Marked P K E w b n u) (hn : n < maxLen) (y : Int) (hy : 0 ≤ y ∧ y ≤ 2000) (hx : a.eval x = .int .i64 y) (hv : a.eval v = .bool true)
    (h : ∀ w', Marked P K E w' b (n + 1) (fun z => u z || decide (y = z)) → w.grownBy w' (some b) → wpList P ops Q rest (a.put o.dst undef) w') :
    wpList P ops Q (o :: rest) a w := by
  obtain ⟨D, hD, ha⟩ := hown
  refine wpList_mapUpdate_own _ hg m x v t hop K E (int_keyed hK) ht (plainElem P E) b n D hm hD hn (.int .i64 y) (.bool true) (.int .i64 y) hx hv (keyOf_int_mk hK (wf_small hy)) (.lit (.bool true)) [] (plainElem_bool hE true) ?_
  intro w' hD' hg'
  refine h w' ⟨_, hD', fun z => ?_⟩ hg'
  by_cases hz : y = z
  · subst hz
    rw [atKey_put_same hD.isMap (by trivial)]
    simp
  · rw [atKey_put_other (by intro h'; injection h' with _ h2; exact hz h2.symm), ha z]
    simp [hz]
theorem wp_named {P : Program} {c : Code} {Q : Exit → Act → World → Prop} {a : Act} {w : World} (h : ∀ w', w' = w → Code.wp P c Q a w') : Code.wp P c Q a w := h w rfl
end Go.Proofs.YtokklkmibjpjnaaGreat
namespace Go.Proofs.YtokklkmibjpjnaaGreat
set_option linter.unusedSimpArgs false
set_option linter.unusedVariables false
attribute [local go_sem] n_lt2 n_lt3 n_lt4 n_le2 n_le3
open Go.RowKit
theorem firedBefore_succ (l : List Jb) (k : Nat) (x : Int) : firedBefore l (k + 1) x = (firedBefore l k x || decide ((l.getD k default).f = x)) := by
  unfold firedBefore
  rw [List.range_succ, List.any_append]
  simp
attribute [local go_sem] Ext.cell Ext.frozen

theorem closed_any (a b c d e : Int) (w : World) :
    Calls Tryz.prog 91 #[.agg #[.int .i64 a, .int .i64 b, .int .i64 c, .int .i64 d, .int .i64 e]] w fun e' w' => e' = .returned (.bool (!decide (e = 0))) ∧ Below w.heap.size w w' := by
  go_enter Tryz.func91, Tryz.ntmps91
  go_wp2
  go_ret
  exact ⟨ret_bool (by (first | rfl | (simp [*]; done) | (subst_vars; simp [*]; done) | (simp_all; done))), by (repeat' (first | (with_reducible exact Below.refl _ _) | (with_reducible assumption) | (with_reducible refine Below.alloc ?_ ?_ _) | (with_reducible refine Below.drew ?_) | (with_reducible refine Below.setCell ?_ ?_ _) | (with_reducible refine bstep (by assumption) ?_ ?_) | (with_reducible exact Nat.le_refl _) | omega | (simp [*]; done) | (simp [*]; omega)))⟩
theorem zeroB (w : World) : (zeroValue 4).run Tryz.prog w = .ok (.bool false) w := by kernel_rfl
set_option maxRecDepth 100000 in
set_option maxHeartbeats 4000000 in
theorem jobsOk_any (A : Option Addr) (n cap : Nat) (l : List Jb) (w : World) (hS : Sl w 5 A n (JB l)) (hl : l.length = n) (hn : n ≤ maxLen) :
    Calls Tryz.prog 77 #[.slice A n cap] w fun e' w' => e' = .returned (.bool (jobsB l)) ∧ Below w.heap.size w w' := by
  unfold maxLen at hn
  by_cases h8 : 8 < n
  · have hv : jobsB l = false := jobsB_long (by omega)
    have h8' : (8 : Int) < (n : Int) := by omega
    clear hS hl
    go_enter Tryz.func77, Tryz.ntmps77
    go_wp2
    go_ret
    exact ⟨ret_bool hv.symm, Below.refl _ _⟩
  have h8' : (n : Int) ≤ 8 := by omega
  have hL := Lib.hid hl
  have HS := Lib.hid hS
  clear hl hS h8
  have hmm := @run_makeMap Tryz.prog
  go_enter Tryz.func77, Tryz.ntmps77
  go_wp2
  go_loopw [12] (fun i wr => ∃ k : Nat, k ≤ n ∧ i = .int .i64 k ∧ Below w.heap.size w wr ∧ Hid (∀ j, j < k → jobAtB l j = true) ∧ Hid (Marked Tryz.prog 2 4 wr w.heap.size k (firedBefore l k))) (fun i _ => n - (intOf i).toNat)
  case atStart => exact ⟨0, Nat.zero_le _, rfl, (Below.refl _ _).alloc (Nat.le_refl _) _, Lib.hid (fun j hj => absurd hj (by omega)), Lib.hid (Marked.made w _ _ _)⟩
  case round =>
    obtain ⟨k, hk, rfl, hbl, hall, HU⟩ := hrel
    by_cases hlt : k < n
    · obtain ⟨b, off, rfl, hb, hcell⟩ := sl_jobs HS.out (by omega)
      obtain ⟨h0, h1, h2, h3, h4⟩ := hcell k hlt
      have g0 := (hcell (k - 1) (by omega)).1
      clear hcell
      rw [← hbl.cell (by exact hb)] at h0 h1 h2 h3 h4 g0
      generalize hp : l.getD k default = p at h0 h1 h2 h3 h4
      generalize hp0 : l.getD (k - 1) default = p0 at g0
      obtain ⟨x0, x1, x2, x3, x4⟩ := p
      obtain ⟨y0, y1, y2, y3, y4⟩ := p0
      simp only at h0 h1 h2 h3 h4 g0
      have HP := Lib.hid (And.intro hp hp0)
      clear hp hp0
      have hbr : b < wr.heap.size := Nat.lt_of_lt_of_le hb hbl.size
      have hB0 := Lib.hid (Nat.le_trans (Nat.le_succ _) (show w.heap.size + 1 ≤ wr.heap.size from HU.out.lt))
      by_cases hj : jobB x0 x1 x2 x3 x4 = true
      · have hC : ∀ w0, Calls Tryz.prog 90 #[.agg #[.int .i64 x0, .int .i64 x1, .int .i64 x2, .int .i64 x3, .int .i64 x4]] w0 fun e' w' => e' = .returned (.bool true) ∧ Below w0.heap.size w0 w' := fun w0 => by
          have := jobOk_any x0 x1 x2 x3 x4 w0
          rwa [hj] at this
        have HJ := Lib.hid hj
        clear hj
        by_cases hbad : 0 < k ∧ x0 ≤ y0
        · obtain ⟨hk0, hxy⟩ := hbad
          have hk0' : (0 : Int) < (k : Int) := by omega
          go_wp2
          ((refine wp_region_ext (by kernel_rfl) (by kernel_rfl) ?_); (repeat (any_goals (first | go_big_quiet_step ((go_at_call 90; exact quiet_ext (hC _))) | (refine wpQuiet_step (fun K hK => ?_); go_simp; split <;> (refine hK _ ?_; clear hK K)) | quiet_step ((go_at_call 90; exact quiet_ext (hC _)))))); (all_goals (refine wpQuiet_nil ?_; rintro _ ⟨z, rfl⟩; have hb' := z.h; generalize z.w = w1 at hb' ⊢; clear z; (first | (have hb2 := bstep hb' hb hb.size; clear hb' hcb hfb hz1 hz2 hz3 hz4 hb; have hb := hb2; clear hb2) | (have hb := hb'; clear hb')); obtain ⟨hcb, hfb, hz1, hz2, hz3, hz4⟩ := bcell hb; (try simp only [World.size_alloc, World.size_setCell, World.size_drew, Nat.lt_add_one_iff, Nat.add_assoc, Nat.reduceAdd] at hz1 hz2 hz3 hz4))))
          all_goals go_wp2
          all_goals go_ret
          all_goals exact ⟨ret_bool (jobsB_false (hL.out.symm ▸ hlt) (jobAtB_2 hk0 (by rw [HP.out.1, HP.out.2]; exact hxy))).symm, bstep hb (hbl.alloc hbl.size _) (by have := hbl.size; simp; omega)⟩
        · have HG := Lib.hid (show k = 0 ∨ y0 < x0 by omega)
          rcases Nat.eq_zero_or_pos k with hk0 | hk0
          · have hk0' : ¬ (0 : Int) < (k : Int) := by omega
            clear hk0 hbad
            by_cases hx : x4 = 0
            · have hx4 : (!decide (x4 = 0)) = false := by simpa using hx
              have hD : ∀ w0, Calls Tryz.prog 91 #[.agg #[.int .i64 x0, .int .i64 x1, .int .i64 x2, .int .i64 x3, .int .i64 x4]] w0 fun e' w' => e' = .returned (.bool false) ∧ Below w0.heap.size w0 w' := fun w0 => by
                have := closed_any x0 x1 x2 x3 x4 w0
                rwa [hx4] at this
              have hxl : x4 ≤ 0 := by omega
              clear hx
              go_wp2
              ((refine wp_region_ext (by kernel_rfl) (by kernel_rfl) ?_); (repeat (any_goals (first | go_big_quiet_step (first | (go_at_call 90; exact quiet_ext (hC _)) | (go_at_call 91; exact quiet_ext (hD _))) | (refine wpQuiet_step (fun K hK => ?_); go_simp; split <;> (refine hK _ ?_; clear hK K)) | quiet_step (first | (go_at_call 90; exact quiet_ext (hC _)) | (go_at_call 91; exact quiet_ext (hD _)))))); (all_goals (refine wpQuiet_nil ?_; rintro _ ⟨z, rfl⟩; have hb' := z.h; generalize z.w = w1 at hb' ⊢; clear z; (first | (have hb2 := bstep hb' hb hb.size; clear hb' hcb hfb hz1 hz2 hz3 hz4 hb; have hb := hb2; clear hb2) | (have hb := hb'; clear hb')); obtain ⟨hcb, hfb, hz1, hz2, hz3, hz4⟩ := bcell hb; (try simp only [World.size_alloc, World.size_setCell, World.size_drew, Nat.lt_add_one_iff, Nat.add_assoc, Nat.reduceAdd] at hz1 hz2 hz3 hz4))))
              all_goals try (exfalso; omega)
              have hfr : Below w.heap.size w w1 := bstep hb (hbl.alloc hbl.size _) (by have := hbl.size; simp; omega)
              have HM : Marked Tryz.prog 2 4 w1 w.heap.size k (firedBefore l k) := HU.out.below (((Below.refl _ wr).alloc (Nat.le_refl _) _).trans (hb.mono (by simp)))
              have hsz : w.heap.size ≤ w1.heap.size := hfr.size
              have hy := jobB_fired HJ.out
              go_wp2_with (at_mapUpdate; refine wpList_mark rfl _ _ _ 125 rfl 2 4 Tryz.underlying2 Tryz.underlying4 Tryz.underlying125 w.heap.size k (firedBefore l k) rfl HM (by unfold maxLen; omega) x4 hy rfl rfl ?_; intro w5 HM5 hg5)
              refine ⟨⟨k + 1, by omega, by go_num, hfr.grown hg5 hsz (fun k hk => by injection hk with hk; omega), Lib.hid (upto_succ hall.out (jobAtB_4 (by rw [HP.out.1]; exact HJ.out) (by rw [HP.out.1, HP.out.2]; exact HG.out) (by rw [HP.out.1]; exact .inl hxl))), Lib.hid (by
                have e : firedBefore l (k + 1) = fun z => firedBefore l k z || decide (x4 = z) := funext fun z => by rw [firedBefore_succ, HP.out.1]
                rw [e]
                exact HM5)⟩, by simp [intOf]; omega⟩
            · have hx4 : (!decide (x4 = 0)) = true := by simpa using hx
              have hD : ∀ w0, Calls Tryz.prog 91 #[.agg #[.int .i64 x0, .int .i64 x1, .int .i64 x2, .int .i64 x3, .int .i64 x4]] w0 fun e' w' => e' = .returned (.bool true) ∧ Below w0.heap.size w0 w' := fun w0 => by
                have := closed_any x0 x1 x2 x3 x4 w0
                rwa [hx4] at this
              clear hx4
              have HX := Lib.hid hx
              clear hx
              by_cases hu : firedBefore l k x4 = true
              · have hlk : ∀ (o : Obj) (z : Ext (wr.alloc o)), (Instr.lookup 125 (.map (some w.heap.size)) (.int .i64 x4) false).run Tryz.prog z.w = .ok (.bool true) z.w := fun o z => by
                  have := (HU.out.below (((Below.refl _ wr).alloc (Nat.le_refl _) o).trans (z.h.mono (by simp)))).look (t := 125) Tryz.underlying2 Tryz.underlying4 Tryz.underlying125 (zeroB _) (jobB_fired HJ.out)
                  rwa [hu] at this
                have HUU := Lib.hid hu
                clear hu
                go_wp2
                ((refine wp_region_ext (by kernel_rfl) (by kernel_rfl) ?_); (repeat (any_goals (first | go_big_quiet_step (first | (go_at_call 90; exact quiet_ext (hC _)) | (go_at_call 91; exact quiet_ext (hD _))) | (refine wpQuiet_step (fun K hK => ?_); go_simp; split <;> (refine hK _ ?_; clear hK K)) | quiet_step (first | (go_at_call 90; exact quiet_ext (hC _)) | (go_at_call 91; exact quiet_ext (hD _)))))); (all_goals (refine wpQuiet_nil ?_; rintro _ ⟨z, rfl⟩; have hb' := z.h; generalize z.w = w1 at hb' ⊢; clear z; (first | (have hb2 := bstep hb' hb hb.size; clear hb' hcb hfb hz1 hz2 hz3 hz4 hb; have hb := hb2; clear hb2) | (have hb := hb'; clear hb')); obtain ⟨hcb, hfb, hz1, hz2, hz3, hz4⟩ := bcell hb; (try simp only [World.size_alloc, World.size_setCell, World.size_drew, Nat.lt_add_one_iff, Nat.add_assoc, Nat.reduceAdd] at hz1 hz2 hz3 hz4))))
                all_goals go_wp2
                all_goals go_ret
                all_goals exact ⟨ret_bool (jobsB_false (hL.out.symm ▸ hlt) (jobAtB_3 (by rw [HP.out.1]; have := HX.out; have h9 := jobB_fired HJ.out; show 0 < x4; omega) (by rw [HP.out.1]; exact HUU.out))).symm, bstep hb (hbl.alloc hbl.size _) (by have := hbl.size; simp; omega)⟩
              · have hu : firedBefore l k x4 = false := by simpa using hu
                have hlk : ∀ (o : Obj) (z : Ext (wr.alloc o)), (Instr.lookup 125 (.map (some w.heap.size)) (.int .i64 x4) false).run Tryz.prog z.w = .ok (.bool false) z.w := fun o z => by
                  have := (HU.out.below (((Below.refl _ wr).alloc (Nat.le_refl _) o).trans (z.h.mono (by simp)))).look (t := 125) Tryz.underlying2 Tryz.underlying4 Tryz.underlying125 (zeroB _) (jobB_fired HJ.out)
                  rwa [hu] at this
                have HUU := Lib.hid hu
                clear hu
                go_wp2
                ((refine wp_region_ext (by kernel_rfl) (by kernel_rfl) ?_); (repeat (any_goals (first | go_big_quiet_step (first | (go_at_call 90; exact quiet_ext (hC _)) | (go_at_call 91; exact quiet_ext (hD _))) | (refine wpQuiet_step (fun K hK => ?_); go_simp; split <;> (refine hK _ ?_; clear hK K)) | quiet_step (first | (go_at_call 90; exact quiet_ext (hC _)) | (go_at_call 91; exact quiet_ext (hD _)))))); (all_goals (refine wpQuiet_nil ?_; rintro _ ⟨z, rfl⟩; have hb' := z.h; generalize z.w = w1 at hb' ⊢; clear z; (first | (have hb2 := bstep hb' hb hb.size; clear hb' hcb hfb hz1 hz2 hz3 hz4 hb; have hb := hb2; clear hb2) | (have hb := hb'; clear hb')); obtain ⟨hcb, hfb, hz1, hz2, hz3, hz4⟩ := bcell hb; (try simp only [World.size_alloc, World.size_setCell, World.size_drew, Nat.lt_add_one_iff, Nat.add_assoc, Nat.reduceAdd] at hz1 hz2 hz3 hz4))))
                all_goals try (exfalso; omega)
                have hfr : Below w.heap.size w w1 := bstep hb (hbl.alloc hbl.size _) (by have := hbl.size; simp; omega)
                have HM : Marked Tryz.prog 2 4 w1 w.heap.size k (firedBefore l k) := HU.out.below (((Below.refl _ wr).alloc (Nat.le_refl _) _).trans (hb.mono (by simp)))
                have hsz : w.heap.size ≤ w1.heap.size := hfr.size
                have hy := jobB_fired HJ.out
                go_wp2_with (at_mapUpdate; refine wpList_mark rfl _ _ _ 125 rfl 2 4 Tryz.underlying2 Tryz.underlying4 Tryz.underlying125 w.heap.size k (firedBefore l k) rfl HM (by unfold maxLen; omega) x4 hy rfl rfl ?_; intro w5 HM5 hg5)
                refine ⟨⟨k + 1, by omega, by go_num, hfr.grown hg5 hsz (fun k hk => by injection hk with hk; omega), Lib.hid (upto_succ hall.out (jobAtB_4 (by rw [HP.out.1]; exact HJ.out) (by rw [HP.out.1, HP.out.2]; exact HG.out) (by rw [HP.out.1]; exact .inr HUU.out))), Lib.hid (by
                  have e : firedBefore l (k + 1) = fun z => firedBefore l k z || decide (x4 = z) := funext fun z => by rw [firedBefore_succ, HP.out.1]
                  rw [e]
                  exact HM5)⟩, by simp [intOf]; omega⟩
          · have hk0' : (0 : Int) < (k : Int) := by omega
            have hxy : y0 < x0 := by omega
            have hd : decide (x0 ≤ y0) = false := decide_eq_false (by omega)
            clear hbad
            by_cases hx : x4 = 0
            · have hx4 : (!decide (x4 = 0)) = false := by simpa using hx
              have hD : ∀ w0, Calls Tryz.prog 91 #[.agg #[.int .i64 x0, .int .i64 x1, .int .i64 x2, .int .i64 x3, .int .i64 x4]] w0 fun e' w' => e' = .returned (.bool false) ∧ Below w0.heap.size w0 w' := fun w0 => by
                have := closed_any x0 x1 x2 x3 x4 w0
                rwa [hx4] at this
              have hxl : x4 ≤ 0 := by omega
              clear hx
              go_wp2
              ((refine wp_region_ext (by kernel_rfl) (by kernel_rfl) ?_); (repeat (any_goals (first | go_big_quiet_step (first | (go_at_call 90; exact quiet_ext (hC _)) | (go_at_call 91; exact quiet_ext (hD _))) | (refine wpQuiet_step (fun K hK => ?_); go_simp; split <;> (refine hK _ ?_; clear hK K)) | quiet_step (first | (go_at_call 90; exact quiet_ext (hC _)) | (go_at_call 91; exact quiet_ext (hD _)))))); (all_goals (refine wpQuiet_nil ?_; rintro _ ⟨z, rfl⟩; have hb' := z.h; generalize z.w = w1 at hb' ⊢; clear z; (first | (have hb2 := bstep hb' hb hb.size; clear hb' hcb hfb hz1 hz2 hz3 hz4 hb; have hb := hb2; clear hb2) | (have hb := hb'; clear hb')); obtain ⟨hcb, hfb, hz1, hz2, hz3, hz4⟩ := bcell hb; (try simp only [World.size_alloc, World.size_setCell, World.size_drew, Nat.lt_add_one_iff, Nat.add_assoc, Nat.reduceAdd] at hz1 hz2 hz3 hz4))))
              all_goals try (exfalso; omega)
              have hfr : Below w.heap.size w w1 := bstep hb (hbl.alloc hbl.size _) (by have := hbl.size; simp; omega)
              have HM : Marked Tryz.prog 2 4 w1 w.heap.size k (firedBefore l k) := HU.out.below (((Below.refl _ wr).alloc (Nat.le_refl _) _).trans (hb.mono (by simp)))
              have hsz : w.heap.size ≤ w1.heap.size := hfr.size
              have hy := jobB_fired HJ.out
              go_wp2_with (at_mapUpdate; refine wpList_mark rfl _ _ _ 125 rfl 2 4 Tryz.underlying2 Tryz.underlying4 Tryz.underlying125 w.heap.size k (firedBefore l k) rfl HM (by unfold maxLen; omega) x4 hy rfl rfl ?_; intro w5 HM5 hg5)
              refine ⟨⟨k + 1, by omega, by go_num, hfr.grown hg5 hsz (fun k hk => by injection hk with hk; omega), Lib.hid (upto_succ hall.out (jobAtB_4 (by rw [HP.out.1]; exact HJ.out) (by rw [HP.out.1, HP.out.2]; exact HG.out) (by rw [HP.out.1]; exact .inl hxl))), Lib.hid (by
                have e : firedBefore l (k + 1) = fun z => firedBefore l k z || decide (x4 = z) := funext fun z => by rw [firedBefore_succ, HP.out.1]
                rw [e]
                exact HM5)⟩, by simp [intOf]; omega⟩
            · have hx4 : (!decide (x4 = 0)) = true := by simpa using hx
              have hD : ∀ w0, Calls Tryz.prog 91 #[.agg #[.int .i64 x0, .int .i64 x1, .int .i64 x2, .int .i64 x3, .int .i64 x4]] w0 fun e' w' => e' = .returned (.bool true) ∧ Below w0.heap.size w0 w' := fun w0 => by
                have := closed_any x0 x1 x2 x3 x4 w0
                rwa [hx4] at this
              clear hx4
              have HX := Lib.hid hx
              clear hx
              by_cases hu : firedBefore l k x4 = true
              · have hlk : ∀ (o : Obj) (z : Ext (wr.alloc o)), (Instr.lookup 125 (.map (some w.heap.size)) (.int .i64 x4) false).run Tryz.prog z.w = .ok (.bool true) z.w := fun o z => by
                  have := (HU.out.below (((Below.refl _ wr).alloc (Nat.le_refl _) o).trans (z.h.mono (by simp)))).look (t := 125) Tryz.underlying2 Tryz.underlying4 Tryz.underlying125 (zeroB _) (jobB_fired HJ.out)
                  rwa [hu] at this
                have HUU := Lib.hid hu
                clear hu
                go_wp2
                ((refine wp_region_ext (by kernel_rfl) (by kernel_rfl) ?_); (repeat (any_goals (first | go_big_quiet_step (first | (go_at_call 90; exact quiet_ext (hC _)) | (go_at_call 91; exact quiet_ext (hD _))) | (refine wpQuiet_step (fun K hK => ?_); go_simp; split <;> (refine hK _ ?_; clear hK K)) | quiet_step (first | (go_at_call 90; exact quiet_ext (hC _)) | (go_at_call 91; exact quiet_ext (hD _)))))); (all_goals (refine wpQuiet_nil ?_; rintro _ ⟨z, rfl⟩; have hb' := z.h; generalize z.w = w1 at hb' ⊢; clear z; (first | (have hb2 := bstep hb' hb hb.size; clear hb' hcb hfb hz1 hz2 hz3 hz4 hb; have hb := hb2; clear hb2) | (have hb := hb'; clear hb')); obtain ⟨hcb, hfb, hz1, hz2, hz3, hz4⟩ := bcell hb; (try simp only [World.size_alloc, World.size_setCell, World.size_drew, Nat.lt_add_one_iff, Nat.add_assoc, Nat.reduceAdd] at hz1 hz2 hz3 hz4))))
                all_goals go_wp2
                all_goals go_ret
                all_goals exact ⟨ret_bool (jobsB_false (hL.out.symm ▸ hlt) (jobAtB_3 (by rw [HP.out.1]; have := HX.out; have h9 := jobB_fired HJ.out; show 0 < x4; omega) (by rw [HP.out.1]; exact HUU.out))).symm, bstep hb (hbl.alloc hbl.size _) (by have := hbl.size; simp; omega)⟩
              · have hu : firedBefore l k x4 = false := by simpa using hu
                have hlk : ∀ (o : Obj) (z : Ext (wr.alloc o)), (Instr.lookup 125 (.map (some w.heap.size)) (.int .i64 x4) false).run Tryz.prog z.w = .ok (.bool false) z.w := fun o z => by
                  have := (HU.out.below (((Below.refl _ wr).alloc (Nat.le_refl _) o).trans (z.h.mono (by simp)))).look (t := 125) Tryz.underlying2 Tryz.underlying4 Tryz.underlying125 (zeroB _) (jobB_fired HJ.out)
                  rwa [hu] at this
                have HUU := Lib.hid hu
                clear hu
                go_wp2
                ((refine wp_region_ext (by kernel_rfl) (by kernel_rfl) ?_); (repeat (any_goals (first | go_big_quiet_step (first | (go_at_call 90; exact quiet_ext (hC _)) | (go_at_call 91; exact quiet_ext (hD _))) | (refine wpQuiet_step (fun K hK => ?_); go_simp; split <;> (refine hK _ ?_; clear hK K)) | quiet_step (first | (go_at_call 90; exact quiet_ext (hC _)) | (go_at_call 91; exact quiet_ext (hD _)))))); (all_goals (refine wpQuiet_nil ?_; rintro _ ⟨z, rfl⟩; have hb' := z.h; generalize z.w = w1 at hb' ⊢; clear z; (first | (have hb2 := bstep hb' hb hb.size; clear hb' hcb hfb hz1 hz2 hz3 hz4 hb; have hb := hb2; clear hb2) | (have hb := hb'; clear hb')); obtain ⟨hcb, hfb, hz1, hz2, hz3, hz4⟩ := bcell hb; (try simp only [World.size_alloc, World.size_setCell, World.size_drew, Nat.lt_add_one_iff, Nat.add_assoc, Nat.reduceAdd] at hz1 hz2 hz3 hz4))))
                all_goals try (exfalso; omega)
                have hfr : Below w.heap.size w w1 := bstep hb (hbl.alloc hbl.size _) (by have := hbl.size; simp; omega)
                have HM : Marked Tryz.prog 2 4 w1 w.heap.size k (firedBefore l k) := HU.out.below (((Below.refl _ wr).alloc (Nat.le_refl _) _).trans (hb.mono (by simp)))
                have hsz : w.heap.size ≤ w1.heap.size := hfr.size
                have hy := jobB_fired HJ.out
                go_wp2_with (at_mapUpdate; refine wpList_mark rfl _ _ _ 125 rfl 2 4 Tryz.underlying2 Tryz.underlying4 Tryz.underlying125 w.heap.size k (firedBefore l k) rfl HM (by unfold maxLen; omega) x4 hy rfl rfl ?_; intro w5 HM5 hg5)
                refine ⟨⟨k + 1, by omega, by go_num, hfr.grown hg5 hsz (fun k hk => by injection hk with hk; omega), Lib.hid (upto_succ hall.out (jobAtB_4 (by rw [HP.out.1]; exact HJ.out) (by rw [HP.out.1, HP.out.2]; exact HG.out) (by rw [HP.out.1]; exact .inr HUU.out))), Lib.hid (by
                  have e : firedBefore l (k + 1) = fun z => firedBefore l k z || decide (x4 = z) := funext fun z => by rw [firedBefore_succ, HP.out.1]
                  rw [e]
                  exact HM5)⟩, by simp [intOf]; omega⟩
      · have hj : jobB x0 x1 x2 x3 x4 = false := by simpa using hj
        have hC : ∀ w0, Calls Tryz.prog 90 #[.agg #[.int .i64 x0, .int .i64 x1, .int .i64 x2, .int .i64 x3, .int .i64 x4]] w0 fun e' w' => e' = .returned (.bool false) ∧ Below w0.heap.size w0 w' := fun w0 => by
          have := jobOk_any x0 x1 x2 x3 x4 w0
          rwa [hj] at this
        have HJ := Lib.hid hj
        clear hj
        go_wp2
        ((refine wp_region_ext (by kernel_rfl) (by kernel_rfl) ?_); (repeat (any_goals (first | go_big_quiet_step ((go_at_call 90; exact quiet_ext (hC _))) | (refine wpQuiet_step (fun K hK => ?_); go_simp; split <;> (refine hK _ ?_; clear hK K)) | quiet_step ((go_at_call 90; exact quiet_ext (hC _)))))); (all_goals (refine wpQuiet_nil ?_; rintro _ ⟨z, rfl⟩; have hb' := z.h; generalize z.w = w1 at hb' ⊢; clear z; (first | (have hb2 := bstep hb' hb hb.size; clear hb' hcb hfb hz1 hz2 hz3 hz4 hb; have hb := hb2; clear hb2) | (have hb := hb'; clear hb')); obtain ⟨hcb, hfb, hz1, hz2, hz3, hz4⟩ := bcell hb; (try simp only [World.size_alloc, World.size_setCell, World.size_drew, Nat.lt_add_one_iff, Nat.add_assoc, Nat.reduceAdd] at hz1 hz2 hz3 hz4))))
        all_goals go_wp2
        all_goals go_ret
        all_goals exact ⟨ret_bool (jobsB_false (hL.out.symm ▸ hlt) (jobAtB_1 (by rw [HP.out.1]; exact HJ.out))).symm, bstep hb (hbl.alloc hbl.size _) (by have := hbl.size; simp; omega)⟩
    · have hkn : k = n := by omega
      subst hkn
      go_wp2
      go_ret
      exact ⟨ret_bool (jobsB_true (by have := hL.out; omega) (hL.out.symm ▸ hall.out)).symm, hbl⟩
end Go.Proofs.YtokklkmibjpjnaaGreat
namespace Go.Proofs.YtokklkmibjpjnaaGreat
set_option linter.unusedSimpArgs false
set_option linter.unusedVariables false
attribute [local go_sem] n_lt2 n_lt3 n_lt4 n_le2 n_le3
open Go.RowKit
/-- The place of the first pair with this key, or the list's length. -/
def jobIx (l : List Jb) (key : Int) : Nat := l.findIdx (fun p => decide (p.i = key))
def placeJ (l : List Jb) (key : Int) : Int := if jobIx l key < l.length then (jobIx l key : Int) else -1
def jobAtV (l : List Jb) (key : Int) : Jb × Bool := if jobIx l key < l.length then (l.getD (jobIx l key) default, true) else (default, false)
def jobAtR (l : List Jb) (key : Int) : Jb × Bool := if jobsB l = true then jobAtV l key else (default, false)
theorem jobIx_some {l : List Jb} {key : Int} {k : Nat} (hk : k < l.length) (hj : ∀ j, j < k → (l.getD j default).i ≠ key) (h : (l.getD k default).i = key) : jobIx l key = k := by
  unfold jobIx
  rw [List.findIdx_eq hk]
  refine ⟨?_, fun j hjk => ?_⟩
  · have : l.getD k default = l[k] := by simp [List.getD, hk]
    rw [this] at h
    simpa using h
  · have hj' := hj j hjk
    have : l.getD j default = l[j] := by simp [List.getD, Nat.lt_trans hjk hk]
    rw [this] at hj'
    simpa using hj'
theorem jobIx_none {l : List Jb} {key : Int} (hj : ∀ j, j < l.length → (l.getD j default).i ≠ key) : jobIx l key = l.length := by
  unfold jobIx
  rw [List.findIdx_eq_length]
  intro x hx
  obtain ⟨i, hi, rfl⟩ := List.getElem_of_mem hx
  have hj' := hj i hi
  have : l.getD i default = l[i] := by simp [List.getD, hi]
  rw [this] at hj'
  simpa using hj'
theorem placeJ_some {l : List Jb} {key : Int} {k : Nat} (hk : k < l.length) (hj : ∀ j, j < k → (l.getD j default).i ≠ key) (h : (l.getD k default).i = key) : placeJ l key = k := by
  unfold placeJ
  rw [jobIx_some hk hj h, if_pos hk]
theorem placeJ_none {l : List Jb} {key : Int} (hj : ∀ j, j < l.length → (l.getD j default).i ≠ key) : placeJ l key = -1 := by
  unfold placeJ
  rw [jobIx_none hj, if_neg (Nat.lt_irrefl _)]
theorem jobAtV_some {l : List Jb} {key : Int} {k : Nat} (hk : k < l.length) (hj : ∀ j, j < k → (l.getD j default).i ≠ key) (h : (l.getD k default).i = key) : jobAtV l key = (l.getD k default, true) := by
  unfold jobAtV
  rw [jobIx_some hk hj h, if_pos hk]
theorem jobAtV_none {l : List Jb} {key : Int} (hj : ∀ j, j < l.length → (l.getD j default).i ≠ key) : jobAtV l key = (default, false) := by
  unfold jobAtV
  rw [jobIx_none hj, if_neg (Nat.lt_irrefl _)]
theorem below_uptoJ {l : List Jb} {key : Int} {k : Nat} (h : ∀ j, j < k → (l.getD j default).i ≠ key) (hk : (l.getD k default).i ≠ key) : ∀ j, j < k + 1 → (l.getD j default).i ≠ key := fun j hj => by
  rcases Nat.lt_or_ge j k with h1 | h1
  · exact h j h1
  · obtain rfl : j = k := by omega
    exact hk
attribute [local go_sem] Ext.cell Ext.frozen

theorem jobId_any (a b c d e : Int) (w : World) :
    Calls Tryz.prog 123 #[.agg #[.int .i64 a, .int .i64 b, .int .i64 c, .int .i64 d, .int .i64 e]] w fun e' w' => e' = .returned (.int .i64 a) ∧ Below w.heap.size w w' := by
  go_enter Tryz.func123, Tryz.ntmps123
  go_wp2
  go_ret
  exact ⟨rfl, by (repeat' (first | (with_reducible exact Below.refl _ _) | (with_reducible assumption) | (with_reducible refine Below.alloc ?_ ?_ _) | (with_reducible refine Below.drew ?_) | (with_reducible refine Below.setCell ?_ ?_ _) | (with_reducible refine bstep (by assumption) ?_ ?_) | (with_reducible exact Nat.le_refl _) | omega | (simp [*]; done) | (simp [*]; omega)))⟩
set_option maxHeartbeats 400000 in
theorem isJob_any (x0 x1 x2 x3 x4 key : Int) (p q : Nat) (w : World) (hp : w.cell? ⟨p, 0, none⟩ = some (.func (.func 123) #[] #[])) (hq : w.cell? ⟨q, 0, none⟩ = some (.int .i64 key)) (hpl : p < w.heap.size) (hql : q < w.heap.size) :
    Calls Tryz.prog 136 #[.agg #[.int .i64 x0, .int .i64 x1, .int .i64 x2, .int .i64 x3, .int .i64 x4], .pointer (some ⟨p, 0, none⟩), .pointer (some ⟨q, 0, none⟩)] w fun e' w' => e' = .returned (.bool (decide (x0 = key))) ∧ Below w.heap.size w w' := by
  go_enter Tryz.func136, Tryz.ntmps136
  go_wp2
  ((refine wp_region_ext (by kernel_rfl) (by kernel_rfl) ?_); (repeat (any_goals (first | go_big_quiet_step ((go_at_call 123; exact quiet_ext (jobId_any _ _ _ _ _ _))) | (refine wpQuiet_step (fun K hK => ?_); go_simp; split <;> (refine hK _ ?_; clear hK K)) | quiet_step ((go_at_call 123; exact quiet_ext (jobId_any _ _ _ _ _ _)))))); (all_goals (refine wpQuiet_nil ?_; rintro _ ⟨z, rfl⟩; have hb' := z.h; generalize z.w = w1 at hb' ⊢; clear z; (first | (have hb2 := bstep hb' hb hb.size; clear hb' hcb hfb hz1 hz2 hz3 hz4 hb; have hb := hb2; clear hb2) | (have hb := hb'; clear hb')); obtain ⟨hcb, hfb, hz1, hz2, hz3, hz4⟩ := bcell hb; (try simp only [World.size_alloc, World.size_setCell, World.size_drew, Nat.lt_add_one_iff, Nat.add_assoc, Nat.reduceAdd] at hz1 hz2 hz3 hz4))))
  all_goals go_wp2
  all_goals go_ret
  all_goals exact ⟨ret_bool (by (first | rfl | (simp [*]; done) | (subst_vars; simp [*]; done) | (simp_all; done))), by (repeat' (first | (with_reducible exact Below.refl _ _) | (with_reducible assumption) | (with_reducible refine Below.alloc ?_ ?_ _) | (with_reducible refine Below.drew ?_) | (with_reducible refine Below.setCell ?_ ?_ _) | (with_reducible refine bstep (by assumption) ?_ ?_) | (with_reducible exact Nat.le_refl _) | omega | (simp [*]; done) | (simp [*]; omega)))⟩
set_option maxHeartbeats 800000 in
theorem indexJob_any (A : Option Addr) (n cap : Nat) (l : List Jb) (key : Int) (p q : Nat) (w : World) (hS : Sl w 5 A n (JB l)) (hl : l.length = n) (hn : n ≤ maxLen)
    (hp : w.cell? ⟨p, 0, none⟩ = some (.func (.func 123) #[] #[])) (hq : w.cell? ⟨q, 0, none⟩ = some (.int .i64 key)) (hpl : p < w.heap.size) (hql : q < w.heap.size) :
    Calls Tryz.prog 135 #[.slice A n cap, .func (.func 136) #[] #[.pointer (some ⟨p, 0, none⟩), .pointer (some ⟨q, 0, none⟩)]] w fun e' w' => e' = .returned (.int .i64 (placeJ l key)) ∧ Below w.heap.size w w' := by
  unfold maxLen at hn
  have hL := Lib.hid hl
  have HS := Lib.hid hS
  have HP := Lib.hid hp
  have HQ := Lib.hid hq
  clear hl hS hp hq
  go_enter Tryz.func135, Tryz.ntmps135
  go_wp2
  go_loopw [8] (fun i wr => ∃ k : Nat, k ≤ n ∧ i = .int .i64 k ∧ Below w.heap.size w wr ∧ Hid (∀ j, j < k → (l.getD j default).i ≠ key)) (fun i _ => n - (intOf i).toNat)
  case atStart => exact ⟨0, Nat.zero_le _, rfl, Below.refl _ _, fun j hj => absurd hj (by omega)⟩
  case round =>
    obtain ⟨k, hk, rfl, hbl, hall⟩ := hrel
    by_cases hlt : k < n
    · obtain ⟨b, off, rfl, hb, hcell⟩ := sl_jobs HS.out (by omega)
      obtain ⟨h0, h1, h2, h3, h4⟩ := hcell k hlt
      clear hcell
      rw [← hbl.cell (by exact hb)] at h0 h1 h2 h3 h4
      generalize hpk : l.getD k default = pk at h0 h1 h2 h3 h4
      obtain ⟨x, x1, x2, x3, x4⟩ := pk
      simp only at h0 h1 h2 h3 h4
      have H := Lib.hid hpk
      clear hpk
      have hbr : b < wr.heap.size := Nat.lt_of_lt_of_le hb hbl.size
      have c1 := isJob_any x x1 x2 x3 x4 key p q wr ((hbl.cell (p := ⟨p, 0, none⟩) hpl).trans HP.out) ((hbl.cell (p := ⟨q, 0, none⟩) hql).trans HQ.out) (Nat.lt_of_lt_of_le hpl hbl.size) (Nat.lt_of_lt_of_le hql hbl.size)
      by_cases hx : x = key
      · simp only [hx, decide_true] at c1
        subst hx
        go_wp2_with fail
        refine c1.mono ?_
        rintro e w1 ⟨rfl, b1⟩
        go_wp2
        go_ret
        exact ⟨ret_int (placeJ_some (hL.out.symm ▸ hlt) hall.out (by rw [H.out])).symm, bstep b1 hbl hbl.size⟩
      · simp only [hx, decide_false] at c1
        go_wp2_with fail
        refine c1.mono ?_
        rintro e w1 ⟨rfl, b1⟩
        go_wp2
        exact ⟨⟨k + 1, by omega, by go_num, bstep b1 hbl hbl.size, below_uptoJ hall.out (by rw [H.out]; exact hx)⟩, by simp [intOf]; omega⟩
    · have hkn : k = n := by omega
      subst hkn
      go_wp2
      go_ret
      exact ⟨ret_int (placeJ_none (hL.out.symm ▸ hall.out)).symm, hbl⟩
set_option maxHeartbeats 400000 in
theorem placeJob_any (A : Option Addr) (n cap : Nat) (l : List Jb) (key : Int) (w : World) (hS : Sl w 5 A n (JB l)) (hl : l.length = n) (hn : n ≤ maxLen) :
    Calls Tryz.prog 122 #[.slice A n cap, .int .i64 key, .func (.func 123) #[] #[]] w fun e' w' => e' = .returned (.int .i64 (placeJ l key)) ∧ Below w.heap.size w w' := by
  generalize hv : placeJ l key = v
  go_enter Tryz.func122, Tryz.ntmps122
  go_wp2_with fail
  refine calls_named ?_
  rintro w1 hw1
  have b1 : Below w.heap.size w w1 := by rw [hw1]; (repeat' (first | (with_reducible exact Below.refl _ _) | (with_reducible assumption) | (with_reducible refine Below.alloc ?_ ?_ _) | (with_reducible refine Below.drew ?_) | (with_reducible refine Below.setCell ?_ ?_ _) | (with_reducible refine bstep (by assumption) ?_ ?_) | (with_reducible exact Nat.le_refl _) | omega | (simp [*]; done) | (simp [*]; omega)))
  have hq : w1.cell? ⟨w.heap.size, 0, none⟩ = some (.int .i64 key) := by rw [hw1]; simp [go_sem]
  have hp : w1.cell? ⟨w.heap.size + 1, 0, none⟩ = some (.func (.func 123) #[] #[]) := by rw [hw1]; simp [go_sem]
  have hs : w1.heap.size = w.heap.size + 2 := by rw [hw1]; simp
  clear hw1
  have c1 := indexJob_any A n cap l key (w.heap.size + 1) w.heap.size w1 (hS.below b1) hl hn hp hq (by omega) (by omega)
  rw [hv] at c1
  refine c1.mono ?_
  rintro e w2 ⟨rfl, b2⟩
  go_wp2
  go_ret
  exact ⟨rfl, bthen b1 b2⟩
end Go.Proofs.YtokklkmibjpjnaaGreat
namespace Go.Proofs.YtokklkmibjpjnaaGreat
set_option linter.unusedSimpArgs false
set_option linter.unusedVariables false
attribute [local go_sem] n_lt2 n_lt3 n_lt4 n_le2 n_le3
open Go.RowKit

theorem wpList_append_row2 {P : Program} {ops : Array Oper} {rest : List Oper} {o : Oper} {a : Act} {w : World} {Q : Exit → Act → World → Prop} (hgd : o.guard = none) (s x : Operand) (t : TypeId)
    (ho : o.op = .call { callee := .builtin .append, args := #[s, x], argTypes := #[t, t] })
    (e : TypeId) (z : Value) (size bytes : Nat) (ht : P.underlying t = some (.slice e)) (hinfo : (P.info? e).map (fun i => (i.zero, i.size, i.bytes)) = some (some z, size, bytes)) (hzs : z.cells.size = size) (hsz : 0 < size)
    (lo : Nat) (A : Option Addr) (n cap : Nat) (xs : List Int) (hs : a.eval s = .slice A n cap) (hR : Row w lo e size A n cap xs)
    (ad : Addr) (m c : Nat) (news : List Int) (hx : a.eval x = .slice (some ad) m c) (hl : news.length = m * size) (hnews : ∀ j u, (ints news)[j]? = some u → w.cell? (ad.add j) = some u)
    (h63 : n + m ≤ maxLen) (hbytes : (n + m) * bytes ≤ 140737488355328) (hlo : lo ≤ w.heap.size)
    (h : ∀ A' cap' w', Row w' lo e size A' (n + m) cap' (xs ++ news) → Below lo w w' → Wrote w w' A → (∀ a', A' = some a' → (∃ a, A = some a ∧ a.block = a'.block) ∨ a'.block = w.heap.size) → wpList P ops Q rest (a.put o.dst (.slice A' (n + m) cap')) w') :
    wpList P ops Q (o :: rest) a w := by
  obtain ⟨i, hi, hiz, his, hib⟩ : ∃ i, P.info? e = some i ∧ i.zero = some z ∧ i.size = size ∧ i.bytes = bytes := by
    cases hq : P.info? e with
    | none => rw [hq] at hinfo; simp at hinfo
    | some i =>
      rw [hq] at hinfo
      simp only [Option.map_some, Option.some.injEq, Prod.mk.injEq] at hinfo
      exact ⟨i, rfl, hinfo.1, hinfo.2.1, hinfo.2.2⟩
  refine wpList_append_own_at _ hgd s x t ho lo e i z size bytes ht hi hiz his hib hzs hsz _ n (ints xs) hs hR ad m c (ints news) hx (by rw [ints_length]; exact hl) hnews (ints_oneCell' news) h63 hbytes hlo ?_
  intro v' w' hown hg _ hloc
  have hw : Wrote w w' A := by cases A <;> exact hg
  rw [← ints_append] at hown
  have hb : Below lo w w' := (Below.refl lo w).grown hg hlo (fun k hk => by
    cases A with
    | none => simp [Value.ownBlock] at hk
    | some a0 =>
      simp only [Value.ownBlock, Option.some.injEq] at hk
      subst hk
      exact hR.ge a0 rfl)
  rcases hown.2 with ⟨rfl, h0⟩ | ⟨g, c', cur, rfl, _⟩
  · have hn0 : n + m = 0 := h0
    rw [hn0] at h hown
    exact h none 0 w' hown hb hw (by simp)
  · refine h _ _ w' hown hb hw (fun a' ha' => ?_)
    obtain rfl := Option.some.inj ha'
    rcases hloc with h1 | h1
    · cases A with
      | none => simp [Value.ownBlock] at h1
      | some a0 => exact .inl ⟨a0, rfl, by simpa [Value.ownBlock] using h1.symm⟩
    · exact .inr (by simpa [Value.ownBlock] using h1)
theorem cell_two_new (w : World) (x y : Value) (t : TypeId) : ∀ j u, [x, y][j]? = some u → (w.alloc (.cells #[x, y] t)).cell? ((⟨w.heap.size, 0, none⟩ : Addr).add j) = some u := by
  intro j u hj
  match j, hj with
  | 0, hj => simp at hj; subst hj; simp [Addr.add]
  | 1, hj => simp at hj; subst hj; simp [Addr.add]
end Go.Proofs.YtokklkmibjpjnaaGreat
namespace Go.Proofs.YtokklkmibjpjnaaGreat
set_option linter.unusedSimpArgs false
set_option linter.unusedVariables false
attribute [local go_sem] n_lt2 n_lt3 n_lt4 n_le2 n_le3
open Go.RowKit
attribute [local go_sem] Ext.cell Ext.frozen


theorem info_Int64 : (Tryz.prog.info? 2).map (fun i => (i.zero, i.size, i.bytes)) = some (some (.int .i64 0), 1, 8) := by kernel_rfl




end Go.Proofs.YtokklkmibjpjnaaGreat
namespace Go.Proofs.YtokklkmibjpjnaaGreat
set_option linter.unusedSimpArgs false
set_option linter.unusedVariables false
attribute [local go_sem] n_lt2 n_lt3 n_lt4 n_le2 n_le3
open Go.RowKit
attribute [local go_sem] Ext.cell Ext.frozen

theorem row1i {w : World} {g lo : Nat} {E : TypeId} {a : Int} (h : Blk w g E #[.int .i64 a]) (hlo : lo ≤ g) : Row w lo E 1 (some ⟨g, 0, none⟩) 1 1 [a] := by
  refine h.row hlo (by simp [maxLen]) rfl rfl ?_
  intro j hj
  have hj0 : j = 0 := by omega
  subst hj0
  rfl
/-- Block p is a cursor that holds the row zs. -/
def Cur (w : World) (lo p E C : Nat) (n : Nat) (zs : List Int) : Prop :=
  ∃ A cap, Blk w p C #[.slice A n cap, .int .i64 0] ∧ Row w lo E 1 A n cap zs ∧ (∀ a, A = some a → a.block ≠ p) ∧ lo ≤ p
theorem Cur.alloc {w : World} {lo p E C n : Nat} {zs : List Int} (h : Cur w lo p E C n zs) (o : Obj) : Cur (w.alloc o) lo p E C n zs := by
  obtain ⟨A, cap, K, R, hne, hlo⟩ := h
  exact ⟨A, cap, K.alloc o, World.ownsRow.alloc R o, hne, hlo⟩
theorem Cur.lt {w : World} {lo p E C n : Nat} {zs : List Int} (h : Cur w lo p E C n zs) : p < w.heap.size := by
  obtain ⟨A, cap, K, _⟩ := h
  exact K.lt
end Go.Proofs.YtokklkmibjpjnaaGreat
namespace Go.Proofs.YtokklkmibjpjnaaGreat
set_option linter.unusedSimpArgs false
set_option linter.unusedVariables false
attribute [local go_sem] n_lt2 n_lt3 n_lt4 n_le2 n_le3
open Go.RowKit

def ordersRowL (l : List Jb) : List Int := if jobsB l = true then (l.length : Int) :: JB l else []
theorem ordersRowL_len (l : List Jb) : (ordersRowL l).length ≤ 41 := by
  unfold ordersRowL
  split
  · rename_i h
    have := (jobsB_all h).1
    simp [JB_len]; omega
  · simp
theorem JB_append (a b : List Jb) : JB (a ++ b) = JB a ++ JB b := by simp [JB]
theorem cell_five_at (w : World) (x0 x1 x2 x3 x4 : Value) (t : TypeId) (g : Nat) (hg : g = w.heap.size) : ∀ j u, [x0, x1, x2, x3, x4][j]? = some u → (w.alloc (.cells #[x0, x1, x2, x3, x4] t)).cell? ((⟨g, 0, none⟩ : Addr).add j) = some u := by
  subst hg
  intro j u hj
  match j, hj with
  | 0, hj => simp at hj; subst hj; simp [Addr.add]
  | 1, hj => simp at hj; subst hj; simp [Addr.add]
  | 2, hj => simp at hj; subst hj; simp [Addr.add]
  | 3, hj => simp at hj; subst hj; simp [Addr.add]
  | 4, hj => simp at hj; subst hj; simp [Addr.add]
theorem JB_take {l : List Jb} {k : Nat} (h : k < l.length) : JB (l.take (k + 1)) = JB (l.take k) ++ [(l.getD k default).i, (l.getD k default).d, (l.getD k default).k, (l.getD k default).v, (l.getD k default).f] := by
  rw [List.take_add_one, JB_append]
  congr 1
  simp [JB, List.getD, h]
attribute [local go_sem] Ext.cell Ext.frozen

end Go.Proofs.YtokklkmibjpjnaaGreat
namespace Go.Proofs.YtokklkmibjpjnaaGreat
set_option linter.unusedSimpArgs false
set_option linter.unusedVariables false
attribute [local go_sem] n_lt2 n_lt3 n_lt4 n_le2 n_le3
open Go.RowKit
attribute [local go_sem] Ext.cell Ext.frozen
set_option maxRecDepth 100000 in
set_option maxHeartbeats 400000 in
theorem toJob_any (a0 a1 a2 a3 a4 : Int) (w : World) :
    Calls Tryz.prog 73 #[.agg #[.int .i64 a0, .int .i64 a1, .int .i64 a2, .int .i64 a3, .int .i64 a4]] w fun e' w' => e' = .returned (.agg #[.int .i64 a0, .int .i64 a1, .int .i64 a2, .int .i64 a3, .int .i64 a4]) ∧ Below w.heap.size w w' := by
  go_enter Tryz.func73, Tryz.ntmps73
  go_wp2
  refine bodyPost_ret (v := .agg #[.int .i64 a0, .int .i64 a1, .int .i64 a2, .int .i64 a3, .int .i64 a4]) (by simp [results, Tryz.results73, go_sem]) rfl ⟨rfl, ?_⟩
  (repeat' (first | (with_reducible exact Below.refl _ _) | (with_reducible assumption) | (with_reducible refine Below.alloc ?_ ?_ _) | (with_reducible refine Below.drew ?_) | (with_reducible refine Below.setCell ?_ ?_ _) | (with_reducible refine bstep (by assumption) ?_ ?_) | (with_reducible exact Nat.le_refl _) | omega | (simp [*]; done) | (simp [*]; omega)))
set_option maxHeartbeats 1000000 in
theorem eqJob_any (a0 a1 a2 a3 a4 b0 b1 b2 b3 b4 : Int) (w : World) :
    Calls Tryz.prog 84 #[.agg #[.int .i64 a0, .int .i64 a1, .int .i64 a2, .int .i64 a3, .int .i64 a4], .agg #[.int .i64 b0, .int .i64 b1, .int .i64 b2, .int .i64 b3, .int .i64 b4]] w fun e' w' => e' = .returned (.bool (eqL [a0, a1, a2, a3, a4] [b0, b1, b2, b3, b4])) ∧ Below w.heap.size w w' := by
  go_enter Tryz.func84, Tryz.ntmps84
  go_wp2
  all_goals (go_ret; exact ⟨ret_bool (by unfold eqL; (first | rfl | (simp [*]; done) | (subst_vars; simp [*]; done) | (simp_all; done))), by (repeat' (first | (with_reducible exact Below.refl _ _) | (with_reducible assumption) | (with_reducible refine Below.alloc ?_ ?_ _) | (with_reducible refine Below.drew ?_) | (with_reducible refine Below.setCell ?_ ?_ _) | (with_reducible refine bstep (by assumption) ?_ ?_) | (with_reducible exact Nat.le_refl _) | omega | (simp [*]; done) | (simp [*]; omega)))⟩)

theorem szJobS_yes (A : Option Addr) (n cap : Nat) (left : Int) (w : World) (hn : (n : Int) ≤ left) (hl : left ≤ 1048576) :
    Calls Tryz.prog 26 #[.slice A n cap, .int .i64 left] w fun e w' => e = .returned (.int .i64 (left - n)) ∧ w = w' := by
  go_enter Tryz.func26, Tryz.ntmps26
  go_wp2
  go_ret
  exact ⟨rfl, rfl⟩
theorem szJobS_no (A : Option Addr) (n cap : Nat) (left : Int) (w : World) (hn : left < (n : Int)) (h0 : 0 ≤ left) (hl : left ≤ 1048576) (hm : n ≤ maxLen) :
    Calls Tryz.prog 26 #[.slice A n cap, .int .i64 left] w fun e w' => e = .returned (.int .i64 (-1)) ∧ w = w' := by
  unfold maxLen at hm
  go_enter Tryz.func26, Tryz.ntmps26
  go_wp2
  go_ret
  exact ⟨rfl, rfl⟩

theorem info_Job : (Tryz.prog.info? 71).map (fun i => (i.zero, i.size, i.bytes)) = some (some (.agg #[.int .i64 0, .int .i64 0, .int .i64 0, .int .i64 0, .int .i64 0]), 5, 40) := by kernel_rfl

set_option maxHeartbeats 1600000 in
theorem toJobS_any (A : Option Addr) (n cap : Nat) (zs : List Int) (w : World) (hS : Sl w 5 A n zs) (hn : n ≤ 1048576) :
    Calls Tryz.prog 37 #[.slice A n cap] w (RetRow w 71 5 n zs) := by
  have hmk := fun W => make_flat (P := Tryz.prog) 34 71 (.agg #[.int .i64 0, .int .i64 0, .int .i64 0, .int .i64 0, .int .i64 0]) 5 40 Tryz.underlying34 info_Job (by decide) n hn W
  have HS := Lib.hid hS
  clear hS
  go_enter Tryz.func37, Tryz.ntmps37
  go_wp2
  clear hmk
  go_loopw [4] (fun i wr => ∃ (k : Nat) (cs : Array Value), k ≤ n ∧ i = .int .i64 k ∧ Below w.heap.size w wr ∧ Blk wr w.heap.size 71 cs ∧ Hid (cs.size = n * 5) ∧ Hid (∀ j, j < k * 5 → cs[j]? = some (.int .i64 (zs.getD j 0)))) (fun i _ => n - (intOf i).toNat)
  case atStart => exact ⟨0, _, Nat.zero_le _, rfl, (Below.refl _ _).alloc (Nat.le_refl _) _, Blk.new _ _ _, by simp [size_madeCells, Hid], fun j hj => absurd hj (by omega)⟩
  case round =>
    obtain ⟨k, cs, hk, rfl, hbl, hblk, hcs, hall⟩ := hrel
    by_cases hlt : k < n
    · obtain ⟨b, off, rfl, hb, hcell⟩ := HS.out.at_ (by omega)
      have h0 := hcell (k * 5) (by omega)
      have h1 := hcell (k * 5 + 1) (by omega)
      have h2 := hcell (k * 5 + 2) (by omega)
      have h3 := hcell (k * 5 + 3) (by omega)
      have h4 := hcell (k * 5 + 4) (by omega)
      rw [← hbl.cell (by exact hb)] at h0 h1 h2 h3 h4
      simp only [← Nat.add_assoc] at h0 h1 h2 h3 h4
      clear hcell
      generalize hx0 : zs.getD (k * 5) 0 = x0 at h0
      generalize hx1 : zs.getD (k * 5 + 1) 0 = x1 at h1
      generalize hx2 : zs.getD (k * 5 + 2) 0 = x2 at h2
      generalize hx3 : zs.getD (k * 5 + 3) 0 = x3 at h3
      generalize hx4 : zs.getD (k * 5 + 4) 0 = x4 at h4
      have HX := Lib.hid (And.intro hx0 (And.intro hx1 (And.intro hx2 (And.intro hx3 hx4))))
      clear hx0 hx1 hx2 hx3 hx4
      have hg := hblk.lt
      have hbr : b < wr.heap.size := Nat.lt_of_lt_of_le hb hbl.size
      obtain ⟨c0, g0⟩ := hblk.has (i := k * 5) (by have := hcs.out; omega)
      obtain ⟨c1, g1⟩ := hblk.has (i := k * 5 + 1) (by have := hcs.out; omega)
      obtain ⟨c2, g2⟩ := hblk.has (i := k * 5 + 2) (by have := hcs.out; omega)
      obtain ⟨c3, g3⟩ := hblk.has (i := k * 5 + 3) (by have := hcs.out; omega)
      obtain ⟨c4, g4⟩ := hblk.has (i := k * 5 + 4) (by have := hcs.out; omega)
      have f0 := hblk.frozen (k * 5)
      have f1 := hblk.frozen (k * 5 + 1)
      have f2 := hblk.frozen (k * 5 + 2)
      have f3 := hblk.frozen (k * 5 + 3)
      have f4 := hblk.frozen (k * 5 + 4)
      go_wp2_with ((go_at_call 73; refine (toJob_any _ _ _ _ _ _).mono ?_; rintro e w1 ⟨rfl, hb'⟩; (first | (have hb2 := bstep hb' hb hb.size; clear hb' hcb hfb hz1 hz2 hz3 hz4 hb; have hb := hb2; clear hb2) | (have hb := hb'; clear hb')); obtain ⟨hcb, hfb, hz1, hz2, hz3, hz4⟩ := bcell hb; (try simp only [World.size_alloc, World.size_setCell, World.size_drew, Nat.lt_add_one_iff, Nat.add_assoc, Nat.reduceAdd] at hz1 hz2 hz3 hz4)))
      refine ⟨⟨k + 1, _, by omega, by go_num, ((((((bstep hb hbl hbl.size).setCell (by simp) _).setCell (by simp) _).setCell (by simp) _).setCell (by simp) _).setCell (by simp) _), ((((((hblk.below hb).set_ _ _).set_ _ _).set_ _ _).set_ _ _).set_ _ _), ?_, ?_⟩, by simp [intOf]; omega⟩
      · show Array.size _ = _
        simp only [Array.size_setIfInBounds]
        exact hcs.out
      · intro j hj
        have hcsz := hcs.out
        have hxy := HX.out
        simp only [Array.getElem?_setIfInBounds, Array.size_setIfInBounds]
        rcases (by omega : j < k * 5 ∨ j = k * 5 ∨ j = k * 5 + 1 ∨ j = k * 5 + 2 ∨ j = k * 5 + 3 ∨ j = k * 5 + 4) with h | h | h | h | h | h
        · rw [if_neg (by omega), if_neg (by omega), if_neg (by omega), if_neg (by omega), if_neg (by omega)]
          exact hall.out j h
        · rw [if_neg (by omega), if_neg (by omega), if_neg (by omega), if_neg (by omega), if_pos (by omega), if_pos (by omega), h, hxy.1]
        · rw [if_neg (by omega), if_neg (by omega), if_neg (by omega), if_pos (by omega), if_pos (by omega), h, hxy.2.1]
        · rw [if_neg (by omega), if_neg (by omega), if_pos (by omega), if_pos (by omega), h, hxy.2.2.1]
        · rw [if_neg (by omega), if_pos (by omega), if_pos (by omega), h, hxy.2.2.2.1]
        · rw [if_pos (by omega), if_pos (by omega), h, hxy.2.2.2.2]
    · have hkn : k = n := by omega
      subst hkn
      go_wp2
      go_ret
      exact RetRow.mk (hblk.row (Nat.le_refl _) (by simp [maxLen]; omega) hcs.out HS.out.len (by simpa using hall.out)) hbl

set_option maxHeartbeats 1600000 in
theorem eqJobS_any (A B : Option Addr) (n m cap cap' : Nat) (zs ys : List Int) (w : World) (hS : Sl w 5 A n zs) (hT : Sl w 5 B m ys) (hn : n ≤ maxLen) (hm : m ≤ maxLen) :
    Calls Tryz.prog 45 #[.slice A n cap, .slice B m cap'] w fun e w' => e = .returned (.bool (eqL zs ys)) ∧ Below w.heap.size w w' := by
  unfold maxLen at hn hm
  by_cases hnm : n = m
  · subst hnm
    have HS := Lib.hid hS
    have HT := Lib.hid hT
    clear hS hT
    go_enter Tryz.func45, Tryz.ntmps45
    go_wp2
    go_loopw [5] (fun i wr => ∃ (k : Nat), k ≤ n ∧ i = .int .i64 k ∧ Below w.heap.size w wr ∧ Hid (∀ j, j < k * 5 → zs.getD j 0 = ys.getD j 0)) (fun i _ => n - (intOf i).toNat)
    case atStart => exact ⟨0, Nat.zero_le _, rfl, Below.refl _ _, fun j hj => absurd hj (by omega)⟩
    case round =>
      obtain ⟨k, hk, rfl, hbl, hall⟩ := hrel
      by_cases hlt : k < n
      · obtain ⟨b, off, rfl, hb, hcell⟩ := HS.out.at_ (by omega)
        obtain ⟨b', off', rfl, hb', hcell'⟩ := HT.out.at_ (by omega)
        have h0 := hcell (k * 5) (by omega)
        have h1 := hcell (k * 5 + 1) (by omega)
        have h2 := hcell (k * 5 + 2) (by omega)
        have h3 := hcell (k * 5 + 3) (by omega)
        have h4 := hcell (k * 5 + 4) (by omega)
        have p0 := hcell' (k * 5) (by omega)
        have p1 := hcell' (k * 5 + 1) (by omega)
        have p2 := hcell' (k * 5 + 2) (by omega)
        have p3 := hcell' (k * 5 + 3) (by omega)
        have p4 := hcell' (k * 5 + 4) (by omega)
        rw [← hbl.cell (by exact hb)] at h0 h1 h2 h3 h4
        rw [← hbl.cell (by exact hb')] at p0 p1 p2 p3 p4
        simp only [← Nat.add_assoc] at h0 h1 h2 h3 h4 p0 p1 p2 p3 p4
        clear hcell hcell'
        generalize hx0 : zs.getD (k * 5) 0 = x0 at h0
        generalize hx1 : zs.getD (k * 5 + 1) 0 = x1 at h1
        generalize hx2 : zs.getD (k * 5 + 2) 0 = x2 at h2
        generalize hx3 : zs.getD (k * 5 + 3) 0 = x3 at h3
        generalize hx4 : zs.getD (k * 5 + 4) 0 = x4 at h4
        generalize hy0 : ys.getD (k * 5) 0 = y0 at p0
        generalize hy1 : ys.getD (k * 5 + 1) 0 = y1 at p1
        generalize hy2 : ys.getD (k * 5 + 2) 0 = y2 at p2
        generalize hy3 : ys.getD (k * 5 + 3) 0 = y3 at p3
        generalize hy4 : ys.getD (k * 5 + 4) 0 = y4 at p4
        have HX := Lib.hid (And.intro (And.intro hx0 (And.intro hx1 (And.intro hx2 (And.intro hx3 hx4)))) (And.intro hy0 (And.intro hy1 (And.intro hy2 (And.intro hy3 hy4)))))
        clear hx0 hy0 hx1 hy1 hx2 hy2 hx3 hy3 hx4 hy4
        have hbr : b < wr.heap.size := Nat.lt_of_lt_of_le hb hbl.size
        have hbr' : b' < wr.heap.size := Nat.lt_of_lt_of_le hb' hbl.size
        rcases Bool.eq_false_or_eq_true (eqL [x0, x1, x2, x3, x4] [y0, y1, y2, y3, y4]) with hq | hq
        · go_wp2
          ((refine wp_region_ext (by kernel_rfl) (by kernel_rfl) ?_); (repeat (any_goals (first | go_big_quiet_step ((go_at_call 84; exact quiet_ext (eqJob_any _ _ _ _ _ _ _ _ _ _ _))) | (refine wpQuiet_step (fun K hK => ?_); go_simp; split <;> (refine hK _ ?_; clear hK K)) | quiet_step ((go_at_call 84; exact quiet_ext (eqJob_any _ _ _ _ _ _ _ _ _ _ _)))))); (all_goals (refine wpQuiet_nil ?_; rintro _ ⟨z, rfl⟩; have hb' := z.h; generalize z.w = w1 at hb' ⊢; clear z; (first | (have hb2 := bstep hb' hb hb.size; clear hb' hcb hfb hz1 hz2 hz3 hz4 hb; have hb := hb2; clear hb2) | (have hb := hb'; clear hb')); obtain ⟨hcb, hfb, hz1, hz2, hz3, hz4⟩ := bcell hb; (try simp only [World.size_alloc, World.size_setCell, World.size_drew, Nat.lt_add_one_iff, Nat.add_assoc, Nat.reduceAdd] at hz1 hz2 hz3 hz4))))
          go_wp2
          refine ⟨⟨k + 1, by omega, by go_num, bstep hb hbl hbl.size, ?_⟩, by simp [intOf]; omega⟩
          intro j hj
          have hxy := HX.out
          have he := eqL_true hq
          simp only [List.cons.injEq, and_true] at he
          rcases (by omega : j < k * 5 ∨ j = k * 5 ∨ j = k * 5 + 1 ∨ j = k * 5 + 2 ∨ j = k * 5 + 3 ∨ j = k * 5 + 4) with h | h | h | h | h | h
          · exact hall.out j h
          · rw [h, hxy.1.1, hxy.2.1, he.1]
          · rw [h, hxy.1.2.1, hxy.2.2.1, he.2.1]
          · rw [h, hxy.1.2.2.1, hxy.2.2.2.1, he.2.2.1]
          · rw [h, hxy.1.2.2.2.1, hxy.2.2.2.2.1, he.2.2.2.1]
          · rw [h, hxy.1.2.2.2.2, hxy.2.2.2.2.2, he.2.2.2.2]
        · go_wp2
          ((refine wp_region_ext (by kernel_rfl) (by kernel_rfl) ?_); (repeat (any_goals (first | go_big_quiet_step ((go_at_call 84; exact quiet_ext (eqJob_any _ _ _ _ _ _ _ _ _ _ _))) | (refine wpQuiet_step (fun K hK => ?_); go_simp; split <;> (refine hK _ ?_; clear hK K)) | quiet_step ((go_at_call 84; exact quiet_ext (eqJob_any _ _ _ _ _ _ _ _ _ _ _)))))); (all_goals (refine wpQuiet_nil ?_; rintro _ ⟨z, rfl⟩; have hb' := z.h; generalize z.w = w1 at hb' ⊢; clear z; (first | (have hb2 := bstep hb' hb hb.size; clear hb' hcb hfb hz1 hz2 hz3 hz4 hb; have hb := hb2; clear hb2) | (have hb := hb'; clear hb')); obtain ⟨hcb, hfb, hz1, hz2, hz3, hz4⟩ := bcell hb; (try simp only [World.size_alloc, World.size_setCell, World.size_drew, Nat.lt_add_one_iff, Nat.add_assoc, Nat.reduceAdd] at hz1 hz2 hz3 hz4))))
          go_wp2
          go_ret
          refine ⟨ret_bool (eqL_ne ?_).symm, bstep hb hbl hbl.size⟩
          rintro rfl
          have hxy := HX.out
          exact eqL_false (by rw [hq]; decide) (by simp only [List.cons.injEq, and_true]; exact ⟨hxy.1.1.symm.trans hxy.2.1, hxy.1.2.1.symm.trans hxy.2.2.1, hxy.1.2.2.1.symm.trans hxy.2.2.2.1, hxy.1.2.2.2.1.symm.trans hxy.2.2.2.2.1, hxy.1.2.2.2.2.symm.trans hxy.2.2.2.2.2⟩)
      · have hkn : k = n := by omega
        subst hkn
        go_wp2
        go_ret
        have hzy : zs = ys := list_ext_getD (by rw [HS.out.len, HT.out.len]) (fun j hj => hall.out j (by rw [HS.out.len] at hj; omega))
        exact ⟨ret_bool (by rw [hzy]; exact (eqL_self _).symm), hbl⟩
  · have hne : ¬ (n : Int) = (m : Int) := by omega
    have hz : eqL zs ys = false := by
      refine eqL_ne ?_
      rintro rfl
      have h1 := hS.len
      have h2 := hT.len
      omega
    rw [hz]
    clear hz hS hT
    go_enter Tryz.func45, Tryz.ntmps45
    go_wp2
    go_ret
    exact ⟨rfl, Below.refl _ _⟩


set_option maxHeartbeats 1600000 in
theorem markJobS_any (lo : Nat) (A : Option Addr) (n cap : Nat) (zs : List Int) (k0 : Int) (w : World) (hR : Row w lo 71 5 A n cap zs) (hn : n ≤ 1048576) (hk0 : 0 ≤ k0) (hk1 : k0 ≤ 1073741824) :
    Calls Tryz.prog 48 #[.slice A n cap, .int .i64 k0] w (RetMark w lo 71 5 A n cap k0) := by
  by_cases hz : n = 0
  · subst hz
    have hR' : Row w lo 71 5 A 0 cap (marks k0 (0 * 5)) := by
      have hl := hR.len
      have : zs = [] := List.eq_nil_of_length_eq_zero (by omega)
      subst this
      exact hR
    have HR := Lib.hid hR'
    clear hR hR'
    go_enter Tryz.func48, Tryz.ntmps48
    go_wp2
    go_loop [1, 5] (fun q i => i = .int .i64 0 ∧ q = .int .i64 k0) (fun _ _ => 0)
    case atStart => exact ⟨rfl, rfl⟩
    case round =>
      obtain ⟨rfl, rfl⟩ := hrel
      go_wp2
      go_ret
      exact RetMark.mk (by simp) HR.out (World.grownBy.refl _ _)
  · obtain ⟨g, cs, rfl, hlo, hblk, hnc, hcm, hcs, _⟩ := hR.blk (by omega)
    have HC := Lib.hid (And.intro hcs (And.intro hnc hcm))
    clear hR hcs hcm hz
    have hnc' : (n : Int) ≤ (cap : Int) := by omega
    go_enter Tryz.func48, Tryz.ntmps48
    go_wp2
    go_loopw [1, 5] (fun q i wr => ∃ (k : Nat) (cs : Array Value), k ≤ n ∧ i = .int .i64 k ∧ q = .int .i64 (k0 + (k * 5 : Nat)) ∧ Hid (Wrote w wr (some ⟨g, 0, none⟩)) ∧ Blk wr g 71 cs ∧ Hid (cs.size = cap * 5) ∧ Hid (∀ j, j < k * 5 → cs[j]? = some (.int .i64 (k0 + (j : Int))))) (fun _ i _ => n - (intOf i).toNat)
    case atStart => exact ⟨0, cs, Nat.zero_le _, rfl, by simp, World.grownBy.refl _ _, hblk, HC.out.1, fun j hj => absurd hj (by omega)⟩
    case round =>
      obtain ⟨k, cs', hk, rfl, rfl, hwr, hblk', hcs', hall⟩ := hrel
      by_cases hlt : k < n
      · have _hg := hlt
        obtain ⟨c0, g0⟩ := hblk'.has (i := k * 5) (by have := hcs'.out; have := HC.out.2.1; omega)
        obtain ⟨c1, g1⟩ := hblk'.has (i := k * 5 + 1) (by have := hcs'.out; have := HC.out.2.1; omega)
        obtain ⟨c2, g2⟩ := hblk'.has (i := k * 5 + 2) (by have := hcs'.out; have := HC.out.2.1; omega)
        obtain ⟨c3, g3⟩ := hblk'.has (i := k * 5 + 3) (by have := hcs'.out; have := HC.out.2.1; omega)
        obtain ⟨c4, g4⟩ := hblk'.has (i := k * 5 + 4) (by have := hcs'.out; have := HC.out.2.1; omega)
        have f0 := hblk'.frozen (k * 5)
        have f1 := hblk'.frozen (k * 5 + 1)
        have f2 := hblk'.frozen (k * 5 + 2)
        have f3 := hblk'.frozen (k * 5 + 3)
        have f4 := hblk'.frozen (k * 5 + 4)
        go_wp2
        refine ⟨⟨k + 1, _, by omega, by go_num, congrArg (Value.int .i64) (by omega), ?_, (((((hblk'.set_ _ _).set_ _ _).set_ _ _).set_ _ _).set_ _ _), ?_, ?_⟩, by simp [intOf]; omega⟩
        · exact (wrote_set (p := ⟨g, k * 5 + 4, none⟩) (wrote_set (p := ⟨g, k * 5 + 3, none⟩) (wrote_set (p := ⟨g, k * 5 + 2, none⟩) (wrote_set (p := ⟨g, k * 5 + 1, none⟩) (wrote_set (p := ⟨g, k * 5, none⟩) hwr.out rfl _) rfl _) rfl _) rfl _) rfl _)
        · show Array.size _ = _
          simp only [Array.size_setIfInBounds]
          exact hcs'.out
        · intro j hj
          have hcsz := hcs'.out
          have hnc := HC.out.2.1
          simp only [Array.getElem?_setIfInBounds, Array.size_setIfInBounds]
          rcases (by omega : j < k * 5 ∨ j = k * 5 ∨ j = k * 5 + 1 ∨ j = k * 5 + 2 ∨ j = k * 5 + 3 ∨ j = k * 5 + 4) with h | h | h | h | h | h
          · rw [if_neg (by omega), if_neg (by omega), if_neg (by omega), if_neg (by omega), if_neg (by omega)]
            exact hall.out j h
          · rw [if_neg (by omega), if_neg (by omega), if_neg (by omega), if_neg (by omega), if_pos (by omega), if_pos (by omega), h]
            try exact congrArg (fun z => some (Value.int .i64 z)) (by omega)
          · rw [if_neg (by omega), if_neg (by omega), if_neg (by omega), if_pos (by omega), if_pos (by omega), h]
            try exact congrArg (fun z => some (Value.int .i64 z)) (by omega)
          · rw [if_neg (by omega), if_neg (by omega), if_pos (by omega), if_pos (by omega), h]
            try exact congrArg (fun z => some (Value.int .i64 z)) (by omega)
          · rw [if_neg (by omega), if_pos (by omega), if_pos (by omega), h]
            try exact congrArg (fun z => some (Value.int .i64 z)) (by omega)
          · rw [if_pos (by omega), if_pos (by omega), h]
            try exact congrArg (fun z => some (Value.int .i64 z)) (by omega)
      · have hkn : k = n := by omega
        subst hkn
        go_wp2
        go_ret
        refine RetMark.mk (by omega) (Row.of_blk hblk' hlo HC.out.2.1 HC.out.2.2 hcs'.out (marks_length _ _) (fun j hj => ?_)) hwr.out
        rw [marks_getD _ _ _ hj]
        exact hall.out j (by omega)

set_option maxHeartbeats 1600000 in
theorem heldJobS_any (A : Option Addr) (n cap : Nat) (k0 : Int) (w : World) (hS : Sl w 5 A n (marks k0 (n * 5))) (hn : n ≤ 1048576) (hk0 : 0 ≤ k0) (hk1 : k0 ≤ 1073741824) :
    Calls Tryz.prog 50 #[.slice A n cap, .int .i64 k0] w fun e w' => e = .returned (.int .i64 (k0 + (n * 5 : Nat))) ∧ w = w' := by
  have HS := Lib.hid hS
  clear hS
  go_enter Tryz.func50, Tryz.ntmps50
  go_wp2
  go_loop [1, 5] (fun q i => ∃ (k : Nat), k ≤ n ∧ i = .int .i64 k ∧ q = .int .i64 (k0 + (k * 5 : Nat))) (fun _ i => n - (intOf i).toNat)
  case atStart => exact ⟨0, Nat.zero_le _, rfl, by simp⟩
  case round =>
    obtain ⟨k, hk, rfl, rfl⟩ := hrel
    by_cases hlt : k < n
    · obtain ⟨b, off, rfl, hb, hcell⟩ := HS.out.at_ (by omega)
      have h0 := hcell (k * 5) (by omega)
      have h1 := hcell (k * 5 + 1) (by omega)
      have h2 := hcell (k * 5 + 2) (by omega)
      have h3 := hcell (k * 5 + 3) (by omega)
      have h4 := hcell (k * 5 + 4) (by omega)
      rw [marks_getD _ _ _ (by omega)] at h0 h1 h2 h3 h4
      simp only [← Nat.add_assoc] at h0 h1 h2 h3 h4
      clear hcell
      go_wp2
      exact ⟨⟨k + 1, by omega, by go_num, congrArg (Value.int .i64) (by omega)⟩, by simp [intOf]; omega⟩
    · have hkn : k = n := by omega
      subst hkn
      go_wp2
      go_ret
      exact ⟨ret_int (by omega), rfl⟩
end Go.Proofs.YtokklkmibjpjnaaGreat
namespace Go.Proofs.YtokklkmibjpjnaaGreat
set_option linter.unusedSimpArgs false
set_option linter.unusedVariables false
attribute [local go_sem] n_lt2 n_lt3 n_lt4 n_le2 n_le3
open Go.RowKit

structure Pr where
  k : Int
  v : Int
instance : Inhabited Pr := ⟨⟨0, 0⟩⟩
/-- A pair list, its numbers one behind the other. -/
def PR (l : List Pr) : List Int := l.flatMap fun p => [p.k, p.v]
theorem PR_len (l : List Pr) : (PR l).length = l.length * 2 := flat_len _ 2 l (fun _ _ => rfl)
theorem PR_get0 (l : List Pr) (i : Nat) (h : i < l.length) : (PR l).getD (i * 2) 0 = (l.getD i default).k := by
  have := flat_getD (fun p : Pr => [p.k, p.v]) 2 l (fun _ _ => rfl) i 0 h (by decide)
  simpa [PR, List.getD, h] using this
theorem PR_get1 (l : List Pr) (i : Nat) (h : i < l.length) : (PR l).getD (i * 2 + 1) 0 = (l.getD i default).v := by
  have := flat_getD (fun p : Pr => [p.k, p.v]) 2 l (fun _ _ => rfl) i 1 h (by decide)
  simpa [PR, List.getD, h] using this
theorem PR_append (a b : List Pr) : PR (a ++ b) = PR a ++ PR b := by simp [PR]
theorem PR_of : ∀ (n : Nat) (zs : List Int), zs.length = n * 2 → ∃ l : List Pr, l.length = n ∧ PR l = zs
  | 0, zs, h => ⟨[], rfl, by simpa [PR] using (List.eq_nil_of_length_eq_zero (by omega)).symm⟩
  | n + 1, [], h => by simp at h
  | n + 1, [_], h => by simp at h; omega
  | n + 1, a :: b :: zs, h => by
    obtain ⟨l, hl, he⟩ := PR_of n zs (by simp at h; omega)
    exact ⟨⟨a, b⟩ :: l, by simp [hl], by rw [← he]; rfl⟩
theorem PR_inj {a b : List Pr} (h : PR a = PR b) : a = b := by
  have hl : a.length = b.length := by
    have := congrArg List.length h
    rw [PR_len, PR_len] at this
    omega
  apply List.ext_getElem hl
  intro i h1 h2
  have e0 := PR_get0 a i h1
  have e1 := PR_get1 a i h1
  rw [h, PR_get0 b i h2] at e0
  rw [h, PR_get1 b i h2] at e1
  simp only [List.getD, List.getElem?_eq_getElem h1, List.getElem?_eq_getElem h2, Option.getD_some] at e0 e1
  cases ha : a[i]; cases hb : b[i]
  rw [ha, hb] at e0 e1
  simp only at e0 e1
  rw [e0, e1]
theorem sl_pairs {w : World} {A : Option Addr} {n : Nat} {l : List Pr} (h : Sl w 2 A n (PR l)) (hn : 0 < n) : ∃ b off, A = some ⟨b, off, none⟩ ∧ b < w.heap.size ∧
    ∀ i, i < n → w.cell? ⟨b, off + i * 2, none⟩ = some (.int .i64 (l.getD i default).k) ∧ w.cell? ⟨b, off + i * 2 + 1, none⟩ = some (.int .i64 (l.getD i default).v) := by
  have hl : l.length = n := by
    have := h.len
    rw [PR_len] at this
    omega
  obtain ⟨b, off, hA, hb, hc⟩ := h.at_ hn
  refine ⟨b, off, hA, hb, fun i hi => ⟨?_, ?_⟩⟩
  · rw [hc (i * 2) (by omega), PR_get0 l i (by omega)]
  · rw [Nat.add_assoc, hc (i * 2 + 1) (by omega), PR_get1 l i (by omega)]

def pairAt (l : List Pr) (i : Nat) : Bool := inB (l.getD i default).k 0 9 && (inB (l.getD i default).v 0 999 && (decide (i = 0) || decide ((l.getD (i-1) default).k < (l.getD i default).k)))
def pairsB (l : List Pr) : Bool := (List.range l.length).all (pairAt l)
theorem pairAt_eq {l : List Pr} {i : Nat} {x y x0 y0 : Int} (h : l.getD i default = ⟨x, y⟩) (h0 : l.getD (i - 1) default = ⟨x0, y0⟩) : pairAt l i = (inB x 0 9 && (inB y 0 999 && (decide (i = 0) || decide (x0 < x)))) := by
  unfold pairAt; rw [h, h0]
/-- A valid list has its keys one above the other: at most ten. -/
theorem pairs_key {l : List Pr} {m : Nat} (h : ∀ j, j < m → pairAt l j = true) : ∀ i, i < m → (i : Int) ≤ (l.getD i default).k ∧ (l.getD i default).k ≤ 9
  | 0, hi => by
    have := h 0 hi
    simp only [pairAt, Bool.and_eq_true, inB_iff] at this
    exact ⟨by simpa using this.1.1, this.1.2⟩
  | i + 1, hi => by
    have h1 := pairs_key h i (by omega)
    have := h (i + 1) hi
    simp only [pairAt, Bool.and_eq_true, Bool.or_eq_true, inB_iff, decide_eq_true_eq, Nat.add_sub_cancel] at this
    have h3 : (l.getD i default).k < (l.getD (i + 1) default).k := by
      rcases this.2.2 with h0 | h0
      · omega
      · exact h0
    exact ⟨by omega, this.1.2⟩
theorem pairsB_all {l : List Pr} (h : pairsB l = true) : ∀ j, j < l.length → pairAt l j = true := fun j hj => List.all_eq_true.1 h j (List.mem_range.2 hj)
theorem pairsB_len {l : List Pr} (h : pairsB l = true) : l.length ≤ 10 := by
  rcases Nat.lt_or_ge 10 l.length with h1 | h1
  · have := pairs_key (pairsB_all h) 10 h1
    omega
  · exact h1

attribute [local go_sem] Ext.cell Ext.frozen

set_option maxHeartbeats 400000 in
theorem pairsOk_any (A : Option Addr) (n cap : Nat) (l : List Pr) (w : World) (hS : Sl w 2 A n (PR l)) (hl : l.length = n) (hn : n ≤ maxLen) :
    Calls Tryz.prog 76 #[.slice A n cap] w fun e' w' => e' = .returned (.bool (pairsB l)) ∧ Below w.heap.size w w' := by
  have hL := Lib.hid hl
  have HS := Lib.hid hS
  clear hl hS
  unfold maxLen at hn
  go_enter Tryz.func76, Tryz.ntmps76
  go_wp2
  go_loopw [7] (fun i wr => ∃ k : Nat, k ≤ n ∧ i = .int .i64 k ∧ Below w.heap.size w wr ∧ Hid (∀ j, j < k → pairAt l j = true)) (fun i _ => n - (intOf i).toNat)
  case atStart => exact ⟨0, Nat.zero_le _, rfl, Below.refl _ _, fun j hj => absurd hj (by omega)⟩
  case round =>
    obtain ⟨k, hk, rfl, hbl, hall⟩ := hrel
    by_cases hlt : k < n
    · obtain ⟨b, off, rfl, hb, hcell⟩ := sl_pairs HS.out (by omega)
      have h0 := (hcell k hlt).1
      have h1 := (hcell k hlt).2
      have h2 := (hcell (k - 1) (by omega)).1
      clear hcell
      rw [← hbl.cell (by exact hb)] at h0 h1 h2
      generalize hp : l.getD k default = p at h0 h1
      generalize hp0 : l.getD (k - 1) default = p0 at h2
      obtain ⟨x, y⟩ := p
      obtain ⟨x0, y0⟩ := p0
      simp only at h0 h1 h2
      have H := Lib.hid (pairAt_eq hp hp0)
      clear hp hp0
      have hbr : b < wr.heap.size := Nat.lt_of_lt_of_le hb hbl.size
      go_wp2
      ((refine wp_region_ext (by kernel_rfl) (by kernel_rfl) ?_); (repeat (any_goals (first | go_big_quiet_step (first | (go_at_call 88; exact quiet_ext_same (keyOk_any _ _)) | (go_at_call 89; exact quiet_ext_same (valueOk_any _ _))) | (refine wpQuiet_step (fun K hK => ?_); go_simp; split <;> (refine hK _ ?_; clear hK K)) | quiet_step (first | (go_at_call 88; exact quiet_ext_same (keyOk_any _ _)) | (go_at_call 89; exact quiet_ext_same (valueOk_any _ _)))))); (all_goals (refine wpQuiet_nil ?_; rintro _ ⟨z, rfl⟩; have hb' := z.h; generalize z.w = w1 at hb' ⊢; clear z; (first | (have hb2 := bstep hb' hb hb.size; clear hb' hcb hfb hz1 hz2 hz3 hz4 hb; have hb := hb2; clear hb2) | (have hb := hb'; clear hb')); obtain ⟨hcb, hfb, hz1, hz2, hz3, hz4⟩ := bcell hb; (try simp only [World.size_alloc, World.size_setCell, World.size_drew, Nat.lt_add_one_iff, Nat.add_assoc, Nat.reduceAdd] at hz1 hz2 hz3 hz4))))
      all_goals go_wp2
      all_goals have hfr : Below w.heap.size w w1 := bstep hb (hbl.alloc hbl.size _) (by have := hbl.size; simp; omega)
      all_goals first
        | exact ⟨⟨k + 1, by omega, by go_num, hfr, upto_succ hall.out (by rw [H.out]; simp [*] <;> omega)⟩, by simp [intOf]; omega⟩
        | (go_ret
           have hf : pairAt l k = false := by rw [H.out]; simp [*] <;> omega
           exact ⟨ret_bool (a := false) (all_range_false (hL.out.symm ▸ hlt) hf).symm, hfr⟩)
    · have hkn : k = n := by omega
      subst hkn
      go_wp2
      go_ret
      exact ⟨ret_bool (a := true) (all_range_true (hL.out.symm ▸ hall.out)).symm, hbl⟩
def rightB (a b : Int) : Bool := inB a 0 9 && inB b 0 999
set_option maxHeartbeats 400000 in
theorem l14Right_any (a b : Int) (w : World) :
    Calls Tryz.prog 67 #[.agg #[.int .i64 a, .int .i64 b]] w fun e' w' => e' = .returned (.bool (rightB a b)) ∧ Below w.heap.size w w' := by
  go_enter Tryz.func67, Tryz.ntmps67
  go_wp2_with ((go_at_call 60; refine (l1In_any _ _ _ _).mono ?_; rintro e w' ⟨rfl, rfl⟩))
  all_goals (go_ret; exact ⟨ret_bool (by unfold rightB; (first | rfl | (simp [*]; done) | (subst_vars; simp [*]; done) | (simp_all; done))), by (repeat' (first | (with_reducible exact Below.refl _ _) | (with_reducible assumption) | (with_reducible refine Below.alloc ?_ ?_ _) | (with_reducible refine Below.drew ?_) | (with_reducible refine Below.setCell ?_ ?_ _) | (with_reducible refine bstep (by assumption) ?_ ?_) | (with_reducible exact Nat.le_refl _) | omega | (simp [*]; done) | (simp [*]; omega)))⟩)
set_option maxHeartbeats 400000 in
theorem specPairsOk_any (A : Option Addr) (n cap : Nat) (l : List Pr) (w : World) (hS : Sl w 2 A n (PR l)) (hl : l.length = n) (hn : n ≤ maxLen) :
    Calls Tryz.prog 62 #[.slice A n cap] w fun e' w' => e' = .returned (.bool (pairsB l)) ∧ Below w.heap.size w w' := by
  unfold maxLen at hn
  by_cases h10 : 10 < n
  · have hv : pairsB l = false := by
      rw [← Bool.not_eq_true]
      intro h
      have := pairsB_len h
      omega
    have h10' : (10 : Int) < (n : Int) := by omega
    clear hS hl
    go_enter Tryz.func62, Tryz.ntmps62
    go_wp2
    go_ret
    exact ⟨ret_bool hv.symm, Below.refl _ _⟩
  have h10' : (n : Int) ≤ 10 := by omega
  have hL := Lib.hid hl
  have HS := Lib.hid hS
  clear hl hS h10
  go_enter Tryz.func62, Tryz.ntmps62
  go_wp2
  go_loopw [3] (fun i wr => ∃ k : Nat, k ≤ n ∧ i = .int .i64 k ∧ Below w.heap.size w wr ∧ Hid (∀ j, j < k → pairAt l j = true)) (fun i _ => n - (intOf i).toNat)
  case atStart => exact ⟨0, Nat.zero_le _, rfl, Below.refl _ _, fun j hj => absurd hj (by omega)⟩
  case round =>
    obtain ⟨k, hk, rfl, hbl, hall⟩ := hrel
    by_cases hlt : k < n
    · obtain ⟨b, off, rfl, hb, hcell⟩ := sl_pairs HS.out (by omega)
      have h0 := (hcell k hlt).1
      have h1 := (hcell k hlt).2
      have h2 := (hcell (k - 1) (by omega)).1
      clear hcell
      rw [← hbl.cell (by exact hb)] at h0 h1 h2
      generalize hp : l.getD k default = p at h0 h1
      generalize hp0 : l.getD (k - 1) default = p0 at h2
      obtain ⟨x, y⟩ := p
      obtain ⟨x0, y0⟩ := p0
      simp only at h0 h1 h2
      have H := Lib.hid ((pairAt_eq hp hp0).trans (show _ = (rightB x y && (decide (k = 0) || decide (x0 < x))) by unfold rightB; rw [Bool.and_assoc]))
      clear hp hp0
      have hbr : b < wr.heap.size := Nat.lt_of_lt_of_le hb hbl.size
      go_wp2
      ((refine wp_region_ext (by kernel_rfl) (by kernel_rfl) ?_); (repeat (any_goals (first | go_big_quiet_step ((go_at_call 67; exact quiet_ext (l14Right_any _ _ _))) | (refine wpQuiet_step (fun K hK => ?_); go_simp; split <;> (refine hK _ ?_; clear hK K)) | quiet_step ((go_at_call 67; exact quiet_ext (l14Right_any _ _ _)))))); (all_goals (refine wpQuiet_nil ?_; rintro _ ⟨z, rfl⟩; have hb' := z.h; generalize z.w = w1 at hb' ⊢; clear z; (first | (have hb2 := bstep hb' hb hb.size; clear hb' hcb hfb hz1 hz2 hz3 hz4 hb; have hb := hb2; clear hb2) | (have hb := hb'; clear hb')); obtain ⟨hcb, hfb, hz1, hz2, hz3, hz4⟩ := bcell hb; (try simp only [World.size_alloc, World.size_setCell, World.size_drew, Nat.lt_add_one_iff, Nat.add_assoc, Nat.reduceAdd] at hz1 hz2 hz3 hz4))))
      all_goals go_wp2
      all_goals have hfr : Below w.heap.size w w1 := bstep hb hbl hbl.size
      all_goals first
        | exact ⟨⟨k + 1, by omega, by go_num, hfr, upto_succ hall.out (by rw [H.out]; simp [*] <;> omega)⟩, by simp [intOf]; omega⟩
        | (go_ret
           have hf : pairAt l k = false := by rw [H.out]; simp [*] <;> omega
           exact ⟨ret_bool (a := false) (all_range_false (hL.out.symm ▸ hlt) hf).symm, hfr⟩)
    · have hkn : k = n := by omega
      subst hkn
      go_wp2
      go_ret
      exact ⟨ret_bool (a := true) (all_range_true (hL.out.symm ▸ hall.out)).symm, hbl⟩
end Go.Proofs.YtokklkmibjpjnaaGreat
namespace Go.Proofs.YtokklkmibjpjnaaGreat
set_option linter.unusedSimpArgs false
set_option linter.unusedVariables false
attribute [local go_sem] n_lt2 n_lt3 n_lt4 n_le2 n_le3
open Go.RowKit

/-- The place of the first pair with this key, or the list's length. -/
def keyIx (l : List Pr) (key : Int) : Nat := l.findIdx (fun p => decide (p.k = key))
def keyAt (l : List Pr) (key : Int) : Int := if keyIx l key < l.length then (keyIx l key : Int) else -1
def valAt (l : List Pr) (key : Int) : Int × Bool := if keyIx l key < l.length then ((l.getD (keyIx l key) default).v, true) else (0, false)
def valueAtB (l : List Pr) (key : Int) : Int × Bool := if pairsB l = true then valAt l key else (0, false)
theorem keyIx_some {l : List Pr} {key : Int} {k : Nat} (hk : k < l.length) (hj : ∀ j, j < k → (l.getD j default).k ≠ key) (h : (l.getD k default).k = key) : keyIx l key = k := by
  unfold keyIx
  rw [List.findIdx_eq hk]
  refine ⟨?_, fun j hjk => ?_⟩
  · have : l.getD k default = l[k] := by simp [List.getD, hk]
    rw [this] at h
    simpa using h
  · have hj' := hj j hjk
    have : l.getD j default = l[j] := by simp [List.getD, Nat.lt_trans hjk hk]
    rw [this] at hj'
    simpa using hj'
theorem keyIx_none {l : List Pr} {key : Int} (hj : ∀ j, j < l.length → (l.getD j default).k ≠ key) : keyIx l key = l.length := by
  unfold keyIx
  rw [List.findIdx_eq_length]
  intro x hx
  obtain ⟨i, hi, rfl⟩ := List.getElem_of_mem hx
  have hj' := hj i hi
  have : l.getD i default = l[i] := by simp [List.getD, hi]
  rw [this] at hj'
  simpa using hj'
theorem keyAt_some {l : List Pr} {key : Int} {k : Nat} (hk : k < l.length) (hj : ∀ j, j < k → (l.getD j default).k ≠ key) (h : (l.getD k default).k = key) : keyAt l key = k := by
  unfold keyAt
  rw [keyIx_some hk hj h, if_pos hk]
theorem keyAt_none {l : List Pr} {key : Int} (hj : ∀ j, j < l.length → (l.getD j default).k ≠ key) : keyAt l key = -1 := by
  unfold keyAt
  rw [keyIx_none hj, if_neg (Nat.lt_irrefl _)]
theorem valAt_some {l : List Pr} {key : Int} {k : Nat} (hk : k < l.length) (hj : ∀ j, j < k → (l.getD j default).k ≠ key) (h : (l.getD k default).k = key) : valAt l key = ((l.getD k default).v, true) := by
  unfold valAt
  rw [keyIx_some hk hj h, if_pos hk]
theorem valAt_none {l : List Pr} {key : Int} (hj : ∀ j, j < l.length → (l.getD j default).k ≠ key) : valAt l key = (0, false) := by
  unfold valAt
  rw [keyIx_none hj, if_neg (Nat.lt_irrefl _)]
theorem below_upto {l : List Pr} {key : Int} {k : Nat} (h : ∀ j, j < k → (l.getD j default).k ≠ key) (hk : (l.getD k default).k ≠ key) : ∀ j, j < k + 1 → (l.getD j default).k ≠ key := fun j hj => by
  rcases Nat.lt_or_ge j k with h1 | h1
  · exact h j h1
  · obtain rfl : j = k := by omega
    exact hk
attribute [local go_sem] Ext.cell Ext.frozen

theorem pairKey_any (a b : Int) (w : World) :
    Calls Tryz.prog 117 #[.agg #[.int .i64 a, .int .i64 b]] w fun e' w' => e' = .returned (.int .i64 a) ∧ Below w.heap.size w w' := by
  go_enter Tryz.func117, Tryz.ntmps117
  go_wp2
  go_ret
  exact ⟨rfl, by (repeat' (first | (with_reducible exact Below.refl _ _) | (with_reducible assumption) | (with_reducible refine Below.alloc ?_ ?_ _) | (with_reducible refine Below.drew ?_) | (with_reducible refine Below.setCell ?_ ?_ _) | (with_reducible refine bstep (by assumption) ?_ ?_) | (with_reducible exact Nat.le_refl _) | omega | (simp [*]; done) | (simp [*]; omega)))⟩
set_option maxHeartbeats 400000 in
theorem isKey_any (x y key : Int) (p q : Nat) (w : World) (hp : w.cell? ⟨p, 0, none⟩ = some (.func (.func 117) #[] #[])) (hq : w.cell? ⟨q, 0, none⟩ = some (.int .i64 key)) (hpl : p < w.heap.size) (hql : q < w.heap.size) :
    Calls Tryz.prog 132 #[.agg #[.int .i64 x, .int .i64 y], .pointer (some ⟨p, 0, none⟩), .pointer (some ⟨q, 0, none⟩)] w fun e' w' => e' = .returned (.bool (decide (x = key))) ∧ Below w.heap.size w w' := by
  go_enter Tryz.func132, Tryz.ntmps132
  go_wp2
  ((refine wp_region_ext (by kernel_rfl) (by kernel_rfl) ?_); (repeat (any_goals (first | go_big_quiet_step ((go_at_call 117; exact quiet_ext (pairKey_any _ _ _))) | (refine wpQuiet_step (fun K hK => ?_); go_simp; split <;> (refine hK _ ?_; clear hK K)) | quiet_step ((go_at_call 117; exact quiet_ext (pairKey_any _ _ _)))))); (all_goals (refine wpQuiet_nil ?_; rintro _ ⟨z, rfl⟩; have hb' := z.h; generalize z.w = w1 at hb' ⊢; clear z; (first | (have hb2 := bstep hb' hb hb.size; clear hb' hcb hfb hz1 hz2 hz3 hz4 hb; have hb := hb2; clear hb2) | (have hb := hb'; clear hb')); obtain ⟨hcb, hfb, hz1, hz2, hz3, hz4⟩ := bcell hb; (try simp only [World.size_alloc, World.size_setCell, World.size_drew, Nat.lt_add_one_iff, Nat.add_assoc, Nat.reduceAdd] at hz1 hz2 hz3 hz4))))
  all_goals go_wp2
  all_goals go_ret
  all_goals exact ⟨ret_bool (by (first | rfl | (simp [*]; done) | (subst_vars; simp [*]; done) | (simp_all; done))), by (repeat' (first | (with_reducible exact Below.refl _ _) | (with_reducible assumption) | (with_reducible refine Below.alloc ?_ ?_ _) | (with_reducible refine Below.drew ?_) | (with_reducible refine Below.setCell ?_ ?_ _) | (with_reducible refine bstep (by assumption) ?_ ?_) | (with_reducible exact Nat.le_refl _) | omega | (simp [*]; done) | (simp [*]; omega)))⟩
end Go.Proofs.YtokklkmibjpjnaaGreat
namespace Go.Proofs.YtokklkmibjpjnaaGreat
set_option linter.unusedSimpArgs false
set_option linter.unusedVariables false
attribute [local go_sem] n_lt2 n_lt3 n_lt4 n_le2 n_le3
open Go.RowKit
attribute [local go_sem] Ext.cell Ext.frozen

set_option maxHeartbeats 800000 in
theorem indexPair_any (A : Option Addr) (n cap : Nat) (l : List Pr) (key : Int) (p q : Nat) (w : World) (hS : Sl w 2 A n (PR l)) (hl : l.length = n) (hn : n ≤ maxLen)
    (hp : w.cell? ⟨p, 0, none⟩ = some (.func (.func 117) #[] #[])) (hq : w.cell? ⟨q, 0, none⟩ = some (.int .i64 key)) (hpl : p < w.heap.size) (hql : q < w.heap.size) :
    Calls Tryz.prog 131 #[.slice A n cap, .func (.func 132) #[] #[.pointer (some ⟨p, 0, none⟩), .pointer (some ⟨q, 0, none⟩)]] w fun e' w' => e' = .returned (.int .i64 (keyAt l key)) ∧ Below w.heap.size w w' := by
  unfold maxLen at hn
  have hL := Lib.hid hl
  have HS := Lib.hid hS
  have HP := Lib.hid hp
  have HQ := Lib.hid hq
  clear hl hS hp hq
  go_enter Tryz.func131, Tryz.ntmps131
  go_wp2
  go_loopw [8] (fun i wr => ∃ k : Nat, k ≤ n ∧ i = .int .i64 k ∧ Below w.heap.size w wr ∧ Hid (∀ j, j < k → (l.getD j default).k ≠ key)) (fun i _ => n - (intOf i).toNat)
  case atStart => exact ⟨0, Nat.zero_le _, rfl, Below.refl _ _, fun j hj => absurd hj (by omega)⟩
  case round =>
    obtain ⟨k, hk, rfl, hbl, hall⟩ := hrel
    by_cases hlt : k < n
    · obtain ⟨b, off, rfl, hb, hcell⟩ := sl_pairs HS.out (by omega)
      have h0 := (hcell k hlt).1
      have h1 := (hcell k hlt).2
      clear hcell
      rw [← hbl.cell (by exact hb)] at h0 h1
      generalize hpk : l.getD k default = pk at h0 h1
      obtain ⟨x, y⟩ := pk
      simp only at h0 h1
      have H := Lib.hid hpk
      clear hpk
      have hbr : b < wr.heap.size := Nat.lt_of_lt_of_le hb hbl.size
      have c1 := isKey_any x y key p q wr ((hbl.cell (p := ⟨p, 0, none⟩) hpl).trans HP.out) ((hbl.cell (p := ⟨q, 0, none⟩) hql).trans HQ.out) (Nat.lt_of_lt_of_le hpl hbl.size) (Nat.lt_of_lt_of_le hql hbl.size)
      by_cases hx : x = key
      · simp only [hx, decide_true] at c1
        subst hx
        go_wp2_with fail
        refine c1.mono ?_
        rintro e w1 ⟨rfl, b1⟩
        go_wp2
        go_ret
        exact ⟨ret_int (keyAt_some (hL.out.symm ▸ hlt) hall.out (by rw [H.out])).symm, bstep b1 hbl hbl.size⟩
      · simp only [hx, decide_false] at c1
        go_wp2_with fail
        refine c1.mono ?_
        rintro e w1 ⟨rfl, b1⟩
        go_wp2
        exact ⟨⟨k + 1, by omega, by go_num, bstep b1 hbl hbl.size, below_upto hall.out (by rw [H.out]; exact hx)⟩, by simp [intOf]; omega⟩
    · have hkn : k = n := by omega
      subst hkn
      go_wp2
      go_ret
      exact ⟨ret_int (keyAt_none (hL.out.symm ▸ hall.out)).symm, hbl⟩
set_option maxHeartbeats 400000 in
theorem placePair_any (A : Option Addr) (n cap : Nat) (l : List Pr) (key : Int) (w : World) (hS : Sl w 2 A n (PR l)) (hl : l.length = n) (hn : n ≤ maxLen) :
    Calls Tryz.prog 116 #[.slice A n cap, .int .i64 key, .func (.func 117) #[] #[]] w fun e' w' => e' = .returned (.int .i64 (keyAt l key)) ∧ Below w.heap.size w w' := by
  generalize hv : keyAt l key = v
  go_enter Tryz.func116, Tryz.ntmps116
  go_wp2_with fail
  refine calls_named ?_
  rintro w1 hw1
  have b1 : Below w.heap.size w w1 := by rw [hw1]; (repeat' (first | (with_reducible exact Below.refl _ _) | (with_reducible assumption) | (with_reducible refine Below.alloc ?_ ?_ _) | (with_reducible refine Below.drew ?_) | (with_reducible refine Below.setCell ?_ ?_ _) | (with_reducible refine bstep (by assumption) ?_ ?_) | (with_reducible exact Nat.le_refl _) | omega | (simp [*]; done) | (simp [*]; omega)))
  have hq : w1.cell? ⟨w.heap.size, 0, none⟩ = some (.int .i64 key) := by rw [hw1]; simp [go_sem]
  have hp : w1.cell? ⟨w.heap.size + 1, 0, none⟩ = some (.func (.func 117) #[] #[]) := by rw [hw1]; simp [go_sem]
  have hs : w1.heap.size = w.heap.size + 2 := by rw [hw1]; simp
  clear hw1
  have c1 := indexPair_any A n cap l key (w.heap.size + 1) w.heap.size w1 (hS.below b1) hl hn hp hq (by omega) (by omega)
  rw [hv] at c1
  refine c1.mono ?_
  rintro e w2 ⟨rfl, b2⟩
  go_wp2
  go_ret
  exact ⟨rfl, bthen b1 b2⟩
set_option maxHeartbeats 800000 in
theorem specValueAt_any (A : Option Addr) (n cap : Nat) (l : List Pr) (key : Int) (w : World) (hS : Sl w 2 A n (PR l)) (hl : l.length = n) (hn : n ≤ maxLen) :
    Calls Tryz.prog 52 #[.slice A n cap, .int .i64 key] w fun e' w' => e' = .returned (.tuple #[.int .i64 (valueAtB l key).1, .bool (valueAtB l key).2]) ∧ Below w.heap.size w w' := by
  have c1 := specPairsOk_any A n cap l w hS hl hn
  by_cases hk : pairsB l = true
  · have hv : valueAtB l key = valAt l key := by unfold valueAtB; rw [if_pos hk]
    rw [hv]
    rw [hk] at c1
    clear hv
    unfold maxLen at hn
    have hL := Lib.hid hl
    have HS := Lib.hid hS
    clear hl hS hk
    go_enter Tryz.func52, Tryz.ntmps52
    go_wp2_with fail
    refine c1.mono ?_
    rintro e w1 ⟨rfl, b1⟩
    go_wp2
    go_loopw [6] (fun i wr => ∃ k : Nat, k ≤ n ∧ i = .int .i64 k ∧ Below w.heap.size w wr ∧ Hid (∀ j, j < k → (l.getD j default).k ≠ key)) (fun i _ => n - (intOf i).toNat)
    case atStart => exact ⟨0, Nat.zero_le _, rfl, b1, fun j hj => absurd hj (by omega)⟩
    case round =>
      obtain ⟨k, hk, rfl, hbl, hall⟩ := hrel
      by_cases hlt : k < n
      · obtain ⟨b, off, rfl, hb, hcell⟩ := sl_pairs HS.out (by omega)
        have h0 := (hcell k hlt).1
        have h1 := (hcell k hlt).2
        clear hcell
        rw [← hbl.cell (by exact hb)] at h0 h1
        generalize hpk : l.getD k default = pk at h0 h1
        obtain ⟨x, y⟩ := pk
        simp only at h0 h1
        have H := Lib.hid hpk
        clear hpk
        have hbr : b < wr.heap.size := Nat.lt_of_lt_of_le hb hbl.size
        by_cases hx : x = key
        · subst hx
          go_wp2
          have hva : valAt l x = (y, true) := by rw [valAt_some (hL.out.symm ▸ hlt) hall.out (by rw [H.out]), H.out]
          refine bodyPost_ret (v := .tuple #[.int .i64 y, .bool true]) (by simp [results, Tryz.results52, go_sem, *]) rfl ⟨by rw [hva], hbl⟩
        · have hx' : (x == key) = false := by simpa using hx
          go_wp2
          exact ⟨⟨k + 1, by omega, by go_num, hbl, below_upto hall.out (by rw [H.out]; exact hx)⟩, by simp [intOf]; omega⟩
      · have hkn : k = n := by omega
        subst hkn
        go_wp2
        have hva : valAt l key = (0, false) := valAt_none (hL.out.symm ▸ hall.out)
        refine bodyPost_ret (v := .tuple #[.int .i64 0, .bool false]) (by simp [results, Tryz.results52, go_sem, *]) rfl ⟨by rw [hva], hbl⟩
  · have hk' : pairsB l = false := by simpa using hk
    have hv : valueAtB l key = (0, false) := by unfold valueAtB; rw [if_neg hk]
    rw [hv]
    rw [hk'] at c1
    go_enter Tryz.func52, Tryz.ntmps52
    go_wp2_with fail
    refine c1.mono ?_
    rintro e w1 ⟨rfl, b1⟩
    go_wp2
    refine bodyPost_ret (v := .tuple #[.int .i64 0, .bool false]) (by simp [results, Tryz.results52, go_sem, *]) rfl ⟨rfl, b1⟩
end Go.Proofs.YtokklkmibjpjnaaGreat
