/- Arguments whose leaves are all int64: structs of them by value, and slices of such structs, opened to lists of integers. The closing step of a law's row: what was there before the call reads as it did. No program in sight. -/
import Derived.Test.YtckbnfgdjdppfaaLib
import Derived.ProofKit
import Derived.Deep.Slices
namespace Go.Proofs.Ytckbnfgdjdppfaa
set_option linter.unusedSimpArgs false
set_option linter.unusedVariables false
attribute [local go_sem] n_lt2 n_lt3 n_lt4 n_le2 n_le3
open Go.ChangeShapes Go.WideShapes Go.ChangeAt Go.RowKit Go.Deep

/-- A number of 64 bits. -/
def I64 (z : Int) : Prop := -9223372036854775808 ≤ z ∧ z ≤ 9223372036854775807
theorem I64_of_wf {z : Int} (h : (Lit.int .i64 z).wf = true) : I64 z := by
  simp [Lit.wf, IntKind.min, IntKind.max, IntKind.signed, IntKind.bits] at h
  exact ⟨by omega, by omega⟩

/-- The fields lie one behind the other, from cell k to cell e. -/
def tiles (P : Program) : List Field → Nat → Nat → Bool
  | [], k, e => k == e
  | f :: fs, k, e => f.offset == k && tiles P fs (k + P.cellsOf f.type) e

/-- All leaves of the type are int64. -/
def flatB (P : Program) : Nat → TypeId → Bool
  | 0, _ => false
  | d + 1, t => match P.underlying t with
    | some (.int .i64) => P.cellsOf t == 1
    | some (.struct fs) => tiles P fs.toList 0 (P.cellsOf t) && fs.toList.all (fun f => flatB P d f.type)
    | _ => false

theorem tiles_le {P : Program} : ∀ (l : List Field) (k e : Nat), tiles P l k e = true → k ≤ e
  | [], k, e, h => by simp [tiles] at h; omega
  | f :: l, k, e, h => by
    simp only [tiles, Bool.and_eq_true] at h
    have := tiles_le l _ _ h.2
    omega

theorem tile_all {P : Program} (cs : List Value) (e : Nat) (hcs : cs.length = e) : ∀ (l : List Field) (k : Nat), tiles P l k e = true →
    (∀ f ∈ l, ∃ zs : List Int, (cs.drop f.offset).take (P.cellsOf f.type) = zs.map (Value.int .i64) ∧ zs.length = P.cellsOf f.type ∧ ∀ z ∈ zs, I64 z) →
    ∃ zs : List Int, cs.drop k = zs.map (Value.int .i64) ∧ zs.length + k = e ∧ ∀ z ∈ zs, I64 z
  | [], k, h, _ => by
    simp [tiles] at h
    exact ⟨[], by simp; omega, by simpa using h, by simp⟩
  | f :: l, k, h, hf => by
    simp only [tiles, Bool.and_eq_true, beq_iff_eq] at h
    obtain ⟨ho, ht⟩ := h
    obtain ⟨zs, hz, hn, hi⟩ := hf f (by simp)
    obtain ⟨zs', hz', hn', hi'⟩ := tile_all cs e hcs l _ ht (fun g hg => hf g (by simp [hg]))
    rw [ho] at hz
    refine ⟨zs ++ zs', ?_, by simp; omega, ?_⟩
    · rw [List.map_append, ← hz, ← hz', ← List.drop_drop, List.take_append_drop]
    · intro z hz
      rcases List.mem_append.1 hz with h | h
      · exact hi z h
      · exact hi' z h

section
variable {H : Type} {enc : TypeId × Value → H} {P : Program} {w : World} {base : Nat} {spare : Nat → Bool} {held : Bool}

theorem flat_trod : ∀ (d : Nat) (t : TypeId) (fuel : Nat) (cs : List Value) (x : DataW H × List MemPlace), flatB P d t = true → DataW.trod enc P w base spare held fuel t cs = some x →
    ∃ zs : List Int, cs = zs.map (Value.int .i64) ∧ zs.length = P.cellsOf t ∧ ∀ z ∈ zs, I64 z := by
  intro d
  induction d with
  | zero => intro t fuel cs x h; simp [flatB] at h
  | succ d ih =>
    intro t fuel cs x h hx
    unfold flatB at h
    split at h
    · rename_i ht
      obtain ⟨n, rfl, _, hw⟩ := DataW.trod_int ht hx
      exact ⟨[n], rfl, by simpa using (beq_iff_eq.1 h).symm, by simpa using I64_of_wf hw⟩
    · rename_i fs ht
      simp only [Bool.and_eq_true, List.all_eq_true] at h
      obtain ⟨xs, n, _, _, hlen, hxl, hf⟩ := DataW.trod_struct ht hx
      obtain ⟨zs, hz, hn, hi⟩ := tile_all cs _ hlen fs.toList 0 h.1 (by
        intro f hfm
        obtain ⟨i, hil, hfi⟩ := List.mem_iff_getElem.1 hfm
        have hil' : i < fs.size := by simpa using hil
        have hfi' : fs[i]? = some f := by
          rw [Array.getElem?_eq_getElem hil']
          simpa using hfi
        have h1 := hf i f hfi'
        rw [List.getElem?_eq_getElem (by omega)] at h1
        exact ih f.type n _ _ (h.2 f hfm) h1)
      exact ⟨zs, by simpa using hz, by simpa using hn, hi⟩
    · simp at h

/-- A struct by value. -/
theorem open_flat {r : Reach} {b0 : Nat} {t : TypeId} {fs : Array Field} {v : Value} {d : DataW H} {p : List MemPlace} (D : Nat) (ht : P.underlying t = some (.struct fs)) (hB : flatB P D t = true)
    (hv : Value.okWide P w r b0 t v) (h : DataW.Trod enc P w base spare held t v d p) :
    ∃ zs : List Int, v = .agg (zs.map (Value.int .i64)).toArray ∧ zs.length = P.cellsOf t ∧ ∀ z ∈ zs, I64 z := by
  obtain ⟨cs, rfl, hsz⟩ := okWide_struct ht hv
  obtain ⟨fuel, hf⟩ := h
  obtain ⟨zs, hz, hn, hi⟩ := flat_trod D t fuel _ _ hB hf
  have hz' : cs.toList = zs.map (Value.int .i64) := by simpa [Value.cells] using hz
  exact ⟨zs, by rw [← hz'], hn, hi⟩

/-- A number. -/
theorem open_i64 {r : Reach} {b0 : Nat} {t : TypeId} {v : Value} {d : DataW H} {p : List MemPlace} (ht : P.underlying t = some (.int .i64)) (hv : Value.okWide P w r b0 t v) (h : DataW.Trod enc P w base spare held t v d p) :
    ∃ z : Int, v = .int .i64 z ∧ I64 z := by
  obtain ⟨n, rfl, _, _, hw⟩ := open_int ht hv h
  exact ⟨n, rfl, I64_of_wf hw⟩

/-- The argument types of a law: each can be read again behind the call. -/
def kinds (P : Program) (ts : List TypeId) : Bool := ts.all fun t => P.readableRec t && decide (t < P.types.size)

theorem trodAll_kept (hl : laidOutB P = true) {W W' : World} (hb : Below W.heap.size W W') : ∀ {ts : List TypeId} {vs : List Value} {ds : List (DataW H)} {ps : List MemPlace}, kinds P ts = true →
    DataW.TrodAll enc P W 0 (fun _ => true) true ts vs ds ps → (∀ x ∈ ps, x.block < W.heap.size) → DataW.TrodAll enc P W' 0 (fun b => decide (b < W.heap.size)) true ts vs ds ps
  | [], [], [], _, _, h, _ => h
  | t :: ts, v :: vs, d :: ds, ps, hk, ⟨p, q, h1, h2, e⟩, hlt => by
    simp only [kinds, List.all_cons, Bool.and_eq_true, decide_eq_true_eq] at hk
    subst e
    exact ⟨p, q, Below.trod hl hk.1.1 hk.1.2 h1 hb (fun x hx => hlt x (by simp [hx])), trodAll_kept hl hb (by simpa [kinds] using hk.2) h2 (fun x hx => hlt x (by simp [hx])), rfl⟩

/-- The closing step of a law's row: the call has returned true and has left old memory as it was. -/
theorem law_post {f : Func} {s : ChangeSpec} {t : TypeId} {W W' : World} {args : Array Value} {ds gs : List (DataW H)} {before : List MemPlace}
    (hl : laidOutB P = true) (hk : kinds P f.params.toList = true) (hr : f.resultTypes.toList = [t]) (ht : P.underlying t = some .bool) (hv : s.vars = [])
    (hW : DataW.Whole enc P f.params.toList s.vars false W args.toList ds gs before) (hfn : s.fn H (ds ++ gs) = { results := [.lit (.bool true)], args := ds }) (hb : Below W.heap.size W W') :
    s.post enc P f false true false false W args (.bool true) W' := by
  have hlt := hW.lt
  have hW0 := hW
  obtain ⟨p, q, hA, hV, hpq, hfz, hnd⟩ := hW
  have hsz : f.resultTypes.size = 1 := by
    have := congrArg List.length hr
    simpa using this
  rw [hv] at hV
  have hgq : gs = [] ∧ q = [] := by
    cases gs with
    | nil => exact ⟨rfl, hV⟩
    | cons _ _ => exact hV.elim
  obtain ⟨rfl, rfl⟩ := hgq
  refine ⟨ds, [], before, [], p, [], hW0, ?_, ?_, ?_, hb.frame _, fun h => by cases h⟩
  · rw [hfn, hr, hsz]
    exact trodAll_mk1 (shut_bool ht true)
  · rw [hfn]
    exact trodAll_kept hl hb hk hA (fun x hx => hlt x (by rw [hpq]; simp [hx]))
  · rw [hv, hfn]
    rfl
end

theorem len1 {α : Type} {l : List α} (h : l.length = 1) : ∃ a, l = [a] := by
  match l, h with
  | [a], _ => exact ⟨a, rfl⟩
theorem len2 {α : Type} {l : List α} (h : l.length = 2) : ∃ a b, l = [a, b] := by
  match l, h with
  | [a, b], _ => exact ⟨a, b, rfl⟩
theorem len3 {α : Type} {l : List α} (h : l.length = 3) : ∃ a b c, l = [a, b, c] := by
  match l, h with
  | [a, b, c], _ => exact ⟨a, b, c, rfl⟩
theorem len4 {α : Type} {l : List α} (h : l.length = 4) : ∃ a b c d, l = [a, b, c, d] := by
  match l, h with
  | [a, b, c, d], _ => exact ⟨a, b, c, d, rfl⟩
theorem len5 {α : Type} {l : List α} (h : l.length = 5) : ∃ a b c d e, l = [a, b, c, d, e] := by
  match l, h with
  | [a, b, c, d, e], _ => exact ⟨a, b, c, d, e, rfl⟩

end Go.Proofs.Ytckbnfgdjdppfaa
