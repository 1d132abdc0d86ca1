/- Memory words of ours: a slice that reads as a list of integers (Sl), a row of the call's own (Row), and how both live on while the call goes on. No program in sight. -/
import Derived.Test.YtckbnfgdjdppfaaLib
import Derived.Maps.AppendAt
namespace Go.Proofs.Ytckbnfgdjdppfaa
set_option linter.unusedSimpArgs false
set_option linter.unusedVariables false
attribute [local go_sem] n_lt2 n_lt3 n_lt4 n_le2 n_le3
open Go.RowKit

def ints (zs : List Int) : List Value := zs.map (Value.int .i64)
theorem ints_length (zs : List Int) : (ints zs).length = zs.length := by simp [ints]
theorem ints_get (zs : List Int) (j : Nat) (h : j < zs.length) : (ints zs)[j]? = some (.int .i64 (zs.getD j 0)) := by
  simp [ints, List.getD, h]
theorem ints_oneCell' (zs : List Int) : ∀ u ∈ ints zs, u.oneCell' = true := ints_oneCell .i64 zs
theorem ints_append (a b : List Int) : ints (a ++ b) = ints a ++ ints b := by simp [ints]
theorem ints_inj {a b : List Int} (h : ints a = ints b) : a = b := by
  unfold ints at h
  exact List.map_inj_right (fun x y hxy => by injection hxy) |>.1 h

/-- The slice value '.slice A n _' of elements of s cells reads as the numbers zs, one behind the other. -/
def Sl (w : World) (s : Nat) (A : Option Addr) (n : Nat) (zs : List Int) : Prop :=
  zs.length = n * s ∧ (0 < n → ∃ b off, A = some ⟨b, off, none⟩ ∧ b < w.heap.size ∧ ∀ j, j < n * s → w.cell? ⟨b, off + j, none⟩ = some (.int .i64 (zs.getD j 0)))

theorem Sl.len {w : World} {s : Nat} {A : Option Addr} {n : Nat} {zs : List Int} (h : Sl w s A n zs) : zs.length = n * s := h.1
theorem Sl.nil (w : World) (s : Nat) (A : Option Addr) : Sl w s A 0 [] := ⟨by simp, fun h => absurd h (by omega)⟩
theorem Sl.keep {w w' : World} {s : Nat} {A : Option Addr} {n : Nat} {zs : List Int} (h : Sl w s A n zs) (hs : w.heap.size ≤ w'.heap.size) (hc : ∀ p : Addr, A.map (·.block) = some p.block → w'.cell? p = w.cell? p) : Sl w' s A n zs :=
  ⟨h.1, fun hn => by
    obtain ⟨b, off, rfl, hb, hj⟩ := h.2 hn
    exact ⟨b, off, rfl, Nat.lt_of_lt_of_le hb hs, fun j hjn => (hc ⟨b, off + j, none⟩ rfl).trans (hj j hjn)⟩⟩
theorem Sl.below {w w' : World} {s : Nat} {A : Option Addr} {n : Nat} {zs : List Int} (h : Sl w s A n zs) (hb : Below w.heap.size w w') : Sl w' s A n zs :=
  ⟨h.1, fun hn => by
    obtain ⟨b, off, rfl, hbl, hj⟩ := h.2 hn
    exact ⟨b, off, rfl, Nat.lt_of_lt_of_le hbl hb.size, fun j hjn => (hb.cell hbl).trans (hj j hjn)⟩⟩
theorem Sl.drew {w : World} {s : Nat} {A : Option Addr} {n : Nat} {zs : List Int} (h : Sl w s A n zs) : Sl w.drew s A n zs := h
theorem Sl.at_ {w : World} {s : Nat} {A : Option Addr} {n : Nat} {zs : List Int} (h : Sl w s A n zs) (hn : 0 < n) :
    ∃ b off, A = some ⟨b, off, none⟩ ∧ b < w.heap.size ∧ ∀ j, j < n * s → w.cell? ⟨b, off + j, none⟩ = some (.int .i64 (zs.getD j 0)) := h.2 hn

/-- A row of the call's own, from block lo on: its slice value is '.slice A n cap', its numbers zs. -/
def Row (w : World) (lo : Nat) (e : TypeId) (s : Nat) (A : Option Addr) (n cap : Nat) (zs : List Int) : Prop := w.ownsRow lo e s (.slice A n cap) n (ints zs)

/-- The blocks of a slice lie below hi. -/
def LtB (A : Option Addr) (hi : Nat) : Prop := ∀ a, A = some a → a.block < hi
theorem LtB.mono {A : Option Addr} {hi hi' : Nat} (h : LtB A hi) (hh : hi ≤ hi') : LtB A hi' := fun a ha => Nat.lt_of_lt_of_le (h a ha) hh

theorem Row.lt {w : World} {lo : Nat} {e : TypeId} {s : Nat} {A : Option Addr} {n cap : Nat} {zs : List Int} (h : Row w lo e s A n cap zs) : LtB A w.heap.size := fun a ha => by
  subst ha
  exact (World.ownsRow.lt h a.block rfl).2
theorem Row.ge {w : World} {lo : Nat} {e : TypeId} {s : Nat} {A : Option Addr} {n cap : Nat} {zs : List Int} (h : Row w lo e s A n cap zs) : ∀ a, A = some a → lo ≤ a.block := fun a ha => by
  subst ha
  exact (World.ownsRow.lt h a.block rfl).1
theorem Row.len {w : World} {lo : Nat} {e : TypeId} {s : Nat} {A : Option Addr} {n cap : Nat} {zs : List Int} (h : Row w lo e s A n cap zs) : zs.length = n * s := by
  have := h.1
  rwa [ints_length] at this
theorem Row.sl {w : World} {lo : Nat} {e : TypeId} {s : Nat} {A : Option Addr} {n cap : Nat} {zs : List Int} (h : Row w lo e s A n cap zs) : Sl w s A n zs := by
  refine ⟨h.len, fun hn => ?_⟩
  have hlt := h.lt
  have hl := h.len
  rcases h.2 with ⟨_, h0⟩ | ⟨g, c, cur, hv, _, hg, _, _, hcs, ht⟩
  · omega
  · obtain ⟨rfl, rfl⟩ : A = some ⟨g, 0, none⟩ ∧ cap = c := by
      injection hv with h1 _ h3
      exact ⟨h1, h3⟩
    refine ⟨g, 0, rfl, hlt _ rfl, fun j hj => ?_⟩
    have hc := World.ownsRow.cellAt h j hj
    rw [Nat.zero_add, hc]
    exact ints_get zs j (by omega)
theorem Row.keep {w w' : World} {lo : Nat} {e : TypeId} {s : Nat} {A : Option Addr} {n cap : Nat} {zs : List Int} (h : Row w lo e s A n cap zs) (hk : ∀ a, A = some a → w'.heap[a.block]? = w.heap[a.block]?) : Row w' lo e s A n cap zs := by
  refine ⟨h.1, ?_⟩
  rcases h.2 with hn | ⟨g, c, cur, hv, hb, hg, rest⟩
  · exact .inl hn
  · refine .inr ⟨g, c, cur, hv, hb, ?_, rest⟩
    have hA : A = some ⟨g, 0, none⟩ := by injection hv
    rw [hk _ hA]
    exact hg
theorem Row.below {w w' : World} {lo : Nat} {e : TypeId} {s : Nat} {A : Option Addr} {n cap : Nat} {zs : List Int} (h : Row w lo e s A n cap zs) (hb : Below w.heap.size w w') : Row w' lo e s A n cap zs :=
  h.keep fun a ha => hb.block _ (h.lt a ha)
theorem Row.mono {w : World} {lo lo' : Nat} {e : TypeId} {s : Nat} {A : Option Addr} {n cap : Nat} {zs : List Int} (h : Row w lo e s A n cap zs) (hl : lo' ≤ lo) : Row w lo' e s A n cap zs := by
  refine ⟨h.1, ?_⟩
  rcases h.2 with hn | ⟨g, c, cur, hv, hb, rest⟩
  · exact .inl hn
  · exact .inr ⟨g, c, cur, hv, Nat.le_trans hl hb, rest⟩
theorem Row.nil (w : World) (lo : Nat) (e : TypeId) (s : Nat) : Row w lo e s none 0 0 [] := World.ownsRow_nil w lo e s
theorem Row.cap_le {w : World} {lo : Nat} {e : TypeId} {s : Nat} {A : Option Addr} {n cap : Nat} {zs : List Int} (h : Row w lo e s A n cap zs) : n ≤ cap ∧ cap ≤ maxLen := by
  rcases h.2 with ⟨hv, rfl⟩ | ⟨g, c, cur, hv, _, _, h1, h2, _⟩
  · injection hv with _ _ hc
    subst hc
    exact ⟨Nat.le_refl _, by simp⟩
  · injection hv with _ _ hc
    subst hc
    exact ⟨h1, h2⟩

/-- Only the row at A (and new memory) has been written. -/
def Wrote (w w' : World) (A : Option Addr) : Prop := w.grownBy w' (A.map (·.block))
theorem Wrote.size {w w' : World} {A : Option Addr} (h : Wrote w w' A) : w.heap.size ≤ w'.heap.size := World.grownBy.size h
/-- A row made before the written one. -/
theorem Row.wrote {w w' : World} {lo : Nat} {e : TypeId} {s : Nat} {A B : Option Addr} {n cap : Nat} {zs : List Int} (h : Row w lo e s A n cap zs) (hw : Wrote w w' B) (hne : ∀ a b, A = some a → B = some b → a.block ≠ b.block) : Row w' lo e s A n cap zs :=
  h.keep fun a ha => World.grownBy.block hw _ (h.lt a ha) (by
    cases B with
    | none => simp
    | some b => simp only [Option.map_some, ne_eq, Option.some.injEq]; exact hne a b ha rfl)
theorem Sl.wrote {w w' : World} {s : Nat} {A B : Option Addr} {n : Nat} {zs : List Int} (h : Sl w s A n zs) (hw : Wrote w w' B) (hne : 0 < n → ∀ a b, A = some a → B = some b → a.block ≠ b.block) : Sl w' s A n zs :=
  ⟨h.1, fun hn => by
    obtain ⟨b, off, rfl, hbl, hj⟩ := h.2 hn
    refine ⟨b, off, rfl, Nat.lt_of_lt_of_le hbl hw.size, fun j hjn => ?_⟩
    rw [World.cell?_of_block (World.grownBy.block hw _ hbl (by
      cases B with
      | none => simp
      | some c => simp only [Option.map_some, ne_eq, Option.some.injEq]; exact hne hn _ c rfl rfl))]
    exact hj j hjn⟩
theorem Sl.lt {w : World} {s : Nat} {A : Option Addr} {n : Nat} {zs : List Int} (h : Sl w s A n zs) (hn : 0 < n) : LtB A w.heap.size := fun a ha => by
  obtain ⟨b, off, rfl, hbl, _⟩ := h.2 hn
  obtain rfl := Option.some.inj ha
  exact hbl
/-- Two rows, one made before the other: no block is in both. -/
theorem apart_of {A B : Option Addr} {hi : Nat} (hA : LtB A hi) (hB : ∀ b, B = some b → hi ≤ b.block) : ∀ a b, A = some a → B = some b → a.block ≠ b.block := fun a b ha hb e => by
  have h1 := hA a ha
  have h2 := hB b hb
  omega
theorem apart_symm {A B : Option Addr} (h : ∀ a b, A = some a → B = some b → a.block ≠ b.block) : ∀ a b, B = some a → A = some b → a.block ≠ b.block := fun a b ha hb e => h b a hb ha e.symm
/-- The frame of the whole: a row of the call's own was written. -/
theorem Wrote.below {B : Nat} {a w w' : World} {A : Option Addr} (h : Wrote w w' A) (h1 : Below B a w) (hB : B ≤ w.heap.size) (hA : ∀ x, A = some x → B ≤ x.block) : Below B a w' :=
  h1.grown h hB (fun k hk => by
    cases A with
    | none => simp at hk
    | some x => simp only [Option.map_some, Option.some.injEq] at hk; subst hk; exact hA x rfl)

theorem wrote_set {w w' : World} {a : Addr} (h : Wrote w w' (some a)) {p : Addr} (hp : p.block = a.block) (u : Value) : Wrote w (w'.setCell p u) (some a) := by
  refine ⟨h.os, h.tape, h.output, by simpa [World.setCell] using World.grownBy.size h, fun k hk hne => ?_⟩
  rw [Below.heap_setCell w' p u k (by
    rintro rfl
    exact hne (by simp [hp]))]
  exact World.grownBy.block h k hk hne

/-- The frames of two calls, one behind the other. -/
theorem bthen {w a b : World} (h1 : Below w.heap.size w a) (h2 : Below a.heap.size a b) : Below w.heap.size w b := bstep h2 h1 h1.size

/-- A block known whole. -/
def Blk (w : World) (g : Nat) (e : TypeId) (cs : Array Value) : Prop := w.heap[g]? = some (.cells cs e (0, 0))
theorem Blk.lt {w : World} {g : Nat} {e : TypeId} {cs : Array Value} (h : Blk w g e cs) : g < w.heap.size := (Array.getElem?_eq_some_iff.1 h).1
theorem Blk.cell {w : World} {g : Nat} {e : TypeId} {cs : Array Value} (h : Blk w g e cs) (i : Nat) : w.cell? ⟨g, i, none⟩ = cs[i]? := cell_of_row w g i cs e (0, 0) h
theorem Blk.has {w : World} {g : Nat} {e : TypeId} {cs : Array Value} (h : Blk w g e cs) {i : Nat} (hi : i < cs.size) : ∃ c, w.cell? ⟨g, i, none⟩ = some c := ⟨cs[i], by rw [h.cell]; exact Array.getElem?_eq_getElem hi⟩
theorem Blk.frozen {w : World} {g : Nat} {e : TypeId} {cs : Array Value} (h : Blk w g e cs) (i : Nat) : w.frozen? ⟨g, i, none⟩ = false := by
  unfold Blk at h
  simp [World.frozen?, h]
theorem Blk.new (w : World) (e : TypeId) (cs : Array Value) : Blk (w.alloc (.cells cs e)) w.heap.size e cs := heap_alloc_new w _
theorem Blk.alloc {w : World} {g : Nat} {e : TypeId} {cs : Array Value} (h : Blk w g e cs) (o : Obj) : Blk (w.alloc o) g e cs := (Below.heap_alloc w o g h.lt).trans h
theorem Blk.drew {w : World} {g : Nat} {e : TypeId} {cs : Array Value} (h : Blk w g e cs) : Blk w.drew g e cs := h
theorem Blk.set_ {w : World} {g : Nat} {e : TypeId} {cs : Array Value} (h : Blk w g e cs) (i : Nat) (u : Value) : Blk (w.setCell ⟨g, i, none⟩ u) g e (cs.setIfInBounds i u) := by
  unfold Blk at h ⊢
  simp [World.setCell, Array.getElem?_modify, h]
theorem Blk.far {w : World} {g : Nat} {e : TypeId} {cs : Array Value} (h : Blk w g e cs) {p : Addr} (hp : g ≠ p.block) (u : Value) : Blk (w.setCell p u) g e cs := (Below.heap_setCell w p u g hp).trans h
theorem Blk.below {w w' : World} {g : Nat} {e : TypeId} {cs : Array Value} (h : Blk w g e cs) (hb : Below w.heap.size w w') : Blk w' g e cs := (hb.block g h.lt).trans h
theorem Blk.row {w : World} {g lo n : Nat} {e : TypeId} {s : Nat} {cs : Array Value} {zs : List Int} (h : Blk w g e cs) (hlo : lo ≤ g) (hn : n ≤ maxLen) (hcs : cs.size = n * s) (hz : zs.length = n * s) (hj : ∀ j, j < n * s → cs[j]? = some (.int .i64 (zs.getD j 0))) :
    Row w lo e s (some ⟨g, 0, none⟩) n n zs := by
  refine ⟨by rw [ints_length]; exact hz, .inr ⟨g, n, cs, rfl, hlo, h, Nat.le_refl _, hn, hcs, ?_⟩⟩
  rw [List.take_of_length_le (by simp; omega)]
  apply List.ext_getElem?
  intro j
  by_cases hjn : j < n * s
  · rw [ints_get zs j (by omega), ← hj j hjn]; simp
  · rw [List.getElem?_eq_none (by simp; omega), List.getElem?_eq_none (by rw [ints_length]; omega)]
/-- A row's block. -/
theorem Row.blk {w : World} {lo : Nat} {e : TypeId} {s : Nat} {A : Option Addr} {n cap : Nat} {zs : List Int} (h : Row w lo e s A n cap zs) (hn : 0 < n) :
    ∃ g cs, A = some ⟨g, 0, none⟩ ∧ lo ≤ g ∧ Blk w g e cs ∧ n ≤ cap ∧ cap ≤ maxLen ∧ cs.size = cap * s ∧ ∀ j, j < n * s → cs[j]? = some (.int .i64 (zs.getD j 0)) := by
  have hl := h.len
  rcases h.2 with ⟨_, h0⟩ | ⟨g, c, cur, hv, hb, hg, h1, h2, hcs, ht⟩
  · omega
  · obtain ⟨rfl, rfl⟩ : A = some ⟨g, 0, none⟩ ∧ cap = c := by
      injection hv with h1 _ h3
      exact ⟨h1, h3⟩
    refine ⟨g, cur, rfl, hb, hg, h1, h2, hcs, fun j hj => ?_⟩
    have := ints_get zs j (by omega)
    rw [← ht, List.getElem?_take, if_pos hj] at this
    simpa using this
/-- Back: the block with other cells. -/
theorem Row.of_blk {w : World} {g lo n cap : Nat} {e : TypeId} {s : Nat} {cs : Array Value} {zs : List Int} (h : Blk w g e cs) (hlo : lo ≤ g) (hn : n ≤ cap) (hc : cap ≤ maxLen) (hcs : cs.size = cap * s) (hz : zs.length = n * s) (hj : ∀ j, j < n * s → cs[j]? = some (.int .i64 (zs.getD j 0))) :
    Row w lo e s (some ⟨g, 0, none⟩) n cap zs := by
  have hle : n * s ≤ cap * s := Nat.mul_le_mul_right _ hn
  refine ⟨by rw [ints_length]; exact hz, .inr ⟨g, cap, cs, rfl, hlo, h, hn, hc, hcs, ?_⟩⟩
  apply List.ext_getElem?
  intro j
  rw [List.getElem?_take]
  by_cases hjn : j < n * s
  · rw [if_pos hjn, ints_get zs j (by omega), ← hj j hjn]; simp
  · rw [if_neg hjn, List.getElem?_eq_none (by rw [ints_length]; omega)]

/-- What a function that hands back a slice of flat elements leaves: a row of its own, old memory as it was. -/
def RetRow (w : World) (E s n : Nat) (zs : List Int) (e : Ending) (w' : World) : Prop := ∃ A cap, e = .returned (.slice A n cap) ∧ Row w' w.heap.size E s A n cap zs ∧ Below w.heap.size w w'

theorem RetRow.mk {w w' : World} {E s n : Nat} {zs : List Int} {A : Option Addr} {cap : Nat} (h : Row w' w.heap.size E s A n cap zs) (hb : Below w.heap.size w w') : RetRow w E s n zs (.returned (.slice A n cap)) w' := ⟨A, cap, rfl, h, hb⟩

/-- 'make([]T, n)' at a length of at most 2^20, the elements of at most 4096 bytes. -/
theorem make_flat {P : Program} (t e : TypeId) (z : Value) (s bytes : Nat) (ht : P.underlying t = some (.slice e)) (hinfo : (P.info? e).map (fun i => (i.zero, i.size, i.bytes)) = some (some z, s, bytes)) (hb : bytes ≤ 4096) (n : Nat) (hn : n ≤ 1048576) (w : World) :
    (Instr.makeSlice t (.int .i64 (n : Int)) (.int .i64 (n : Int))).run P w = .ok (.slice (some ⟨w.heap.size, 0, none⟩) n n) (w.alloc (.cells (madeCells z.cells (n * s)) e)) := by
  obtain ⟨i, hi, hz, rfl, hby⟩ := info_parts hinfo
  have hle : bytes * n ≤ 4096 * 1048576 := Nat.mul_le_mul hb hn
  have hle' : (i.bytes : Int) * (n : Int) ≤ 281474976710656 := by
    rw [hby, ← Int.natCast_mul]
    omega
  have h := run_make (P := P) w t e i z ht hi hz .i64 .i64 n n (by omega) (Int.le_refl _) hle' (by omega)
  simpa using h

/-- Equal lists, as a Bool that the walk does not open. -/
def eqL (a b : List Int) : Bool := decide (a = b)
theorem eqL_true {a b : List Int} (h : eqL a b = true) : a = b := by simpa [eqL] using h
theorem eqL_false {a b : List Int} (h : ¬ eqL a b = true) : a ≠ b := by simpa [eqL] using h
theorem eqL_self (a : List Int) : eqL a a = true := by simp [eqL]
theorem eqL_ne {a b : List Int} (h : a ≠ b) : eqL a b = false := by simpa [eqL] using h

/-- The numbers k, k + 1, .. (m of them): what the law's marks lay. -/
def marks (k : Int) (m : Nat) : List Int := (List.range m).map fun (j : Nat) => k + (j : Int)
theorem marks_length (k : Int) (m : Nat) : (marks k m).length = m := by simp [marks]
theorem marks_getD (k : Int) (m j : Nat) (h : j < m) : (marks k m).getD j 0 = k + (j : Int) := by simp [marks, List.getD, h]

/-- What mark leaves. -/
def RetMark (w : World) (lo E s : Nat) (A : Option Addr) (n cap : Nat) (k : Int) (e : Ending) (w' : World) : Prop := e = .returned (.int .i64 (k + (n * s : Nat))) ∧ Row w' lo E s A n cap (marks k (n * s)) ∧ Wrote w w' A
theorem RetMark.mk {w w' : World} {lo E s : Nat} {A : Option Addr} {n cap : Nat} {k k' : Int} (hk : k' = k + (n * s : Nat)) (h : Row w' lo E s A n cap (marks k (n * s))) (hw : Wrote w w' A) : RetMark w lo E s A n cap k (.returned (.int .i64 k')) w' := ⟨by rw [hk], h, hw⟩

theorem list_ext_getD {a b : List Int} (hl : a.length = b.length) (h : ∀ j, j < a.length → a.getD j 0 = b.getD j 0) : a = b := by
  apply List.ext_getElem hl
  intro j h1 h2
  have := h j h1
  simpa [List.getD, h1, h2] using this

end Go.Proofs.Ytckbnfgdjdppfaa
