/- Cells of a block set one behind the other; clear and copy at flat elements. No program in sight. -/
import Derived.Test.YtckbnfgdjdppfaaMem
import Derived.Laws.IdiomCopy
import Derived.Lib.SliceRun
import Derived.Lib.AppendZerosOnto
namespace Go.Proofs.Ytckbnfgdjdppfaa
set_option linter.unusedSimpArgs false
set_option linter.unusedVariables false
attribute [local go_sem] n_lt2 n_lt3 n_lt4 n_le2 n_le3
open Go.RowKit

def slen : Value → Nat
  | .slice _ n _ => n
  | _ => 0
/-- vs laid over cs from o on. -/
def over (cs : Array Value) : Nat → List Value → Array Value
  | _, [] => cs
  | o, v :: r => over (cs.setIfInBounds o v) (o + 1) r
theorem over_size : ∀ (vs : List Value) (cs : Array Value) (o : Nat), (over cs o vs).size = cs.size
  | [], _, _ => rfl
  | v :: r, cs, o => by rw [over, over_size r]; simp
theorem over_out : ∀ (vs : List Value) (cs : Array Value) (o j : Nat), (j < o ∨ o + vs.length ≤ j) → (over cs o vs)[j]? = cs[j]?
  | [], _, _, _, _ => rfl
  | v :: r, cs, o, j, h => by
    simp only [List.length_cons] at h
    rw [over, over_out r _ (o + 1) j (by omega), Array.getElem?_setIfInBounds_ne (by omega)]
theorem over_in : ∀ (vs : List Value) (cs : Array Value) (o j : Nat), o + vs.length ≤ cs.size → j < vs.length → (over cs o vs)[o + j]? = vs[j]?
  | v :: r, cs, o, 0, h, _ => by
    simp only [List.length_cons] at h
    rw [over, over_out r _ (o + 1) _ (by omega), Nat.add_zero, Array.getElem?_setIfInBounds_self_of_lt (by omega)]
    rfl
  | v :: r, cs, o, j + 1, h, hj => by
    simp only [List.length_cons] at h hj
    rw [over, show o + (j + 1) = o + 1 + j by omega, over_in r _ (o + 1) j (by simp; omega) (by omega)]
    simp
theorem Blk.over {g : Nat} {e : TypeId} : ∀ (vs : List Value) (cs : Array Value) (o : Nat) (w : World), Blk w g e cs → Blk (w.setCells g o vs) g e (over cs o vs)
  | [], _, _, _, h => h
  | v :: r, cs, o, w, h => Blk.over r _ (o + 1) _ (h.set_ o v)
theorem below_setCells {B g : Nat} {a : World} (hg : B ≤ g) : ∀ (vs : List Value) (o : Nat) (w : World), Below B a w → Below B a (w.setCells g o vs)
  | [], _, _, h => h
  | v :: r, o, w, h => below_setCells hg r (o + 1) _ (h.setCell (p := ⟨g, o, none⟩) hg v)
theorem heap_setCells {g k : Nat} (hk : k ≠ g) : ∀ (vs : List Value) (o : Nat) (w : World), (w.setCells g o vs).heap[k]? = w.heap[k]?
  | [], _, _ => rfl
  | v :: r, o, w => (heap_setCells hk r (o + 1) _).trans (Below.heap_setCell w ⟨g, o, none⟩ v k hk)
theorem size_setCells {g : Nat} : ∀ (vs : List Value) (o : Nat) (w : World), (w.setCells g o vs).heap.size = w.heap.size
  | [], _, _ => rfl
  | v :: r, o, w => (size_setCells r (o + 1) _).trans (by simp [World.setCell])
theorem drew_setCells (b : Nat) : ∀ (vs : List Value) (o : Nat) (w : World), (w.setCells b o vs).drew = w.drew.setCells b o vs
  | [], _, _ => rfl
  | v :: r, o, w => by rw [World.setCells, World.setCells, drew_setCells b r]; rfl

def zeros (n : Nat) : List Value := List.replicate n (.int .i64 0)
theorem zeros_length (n : Nat) : (zeros n).length = n := by simp [zeros]
theorem zeros_ints (n : Nat) : zeros n = ints (List.replicate n 0) := by simp [zeros, ints]
theorem zeroCells_flat {z : Value} {s : Nat} (hz : z.cells = Array.replicate s (.int .i64 0)) (n : Nat) : (Builtin.zeroCells z.cells n).toList = zeros (n * s) := by
  rw [hz]
  unfold Builtin.zeroCells zeros
  apply List.ext_getElem
  · simp
  · intro i h1 h2
    simp only [List.length_replicate] at h2
    have hs : 0 < s := by
      rcases Nat.eq_zero_or_pos s with h | h
      · subst h; simp at h2
      · exact h
    have hm : i % s < s := Nat.mod_lt _ hs
    simp [hm]

theorem getD_drop (l : List Int) (a t : Nat) : (l.drop a).getD t 0 = l.getD (a + t) 0 := by simp [List.getD]
theorem getD_take (l : List Int) (a t : Nat) (h : t < a) : (l.take a).getD t 0 = l.getD t 0 := by simp [List.getD, List.getElem?_take, h]
theorem getD_append_l (a b : List Int) (t : Nat) (h : t < a.length) : (a ++ b).getD t 0 = a.getD t 0 := by simp [List.getD, List.getElem?_append_left h]
theorem getD_append_r (a b : List Int) (t : Nat) (h : a.length ≤ t) : (a ++ b).getD t 0 = b.getD (t - a.length) 0 := by simp [List.getD, List.getElem?_append_right h]
theorem Sl.sub {w : World} {b off n : Nat} {zs : List Int} (h : Sl w 1 (some ⟨b, off, none⟩) n zs) (k m : Nat) (hm : k + m ≤ n) : Sl w 1 (some ⟨b, off + k, none⟩) m ((zs.drop k).take m) := by
  have hl := h.len
  refine ⟨by simp; omega, fun hm0 => ?_⟩
  obtain ⟨b', off', hA, hb, hc⟩ := h.at_ (by omega)
  injection hA with hA
  injection hA with h1 h2
  subst h1 h2
  refine ⟨b, off + k, rfl, hb, fun j hj => ?_⟩
  rw [getD_take _ _ _ (by omega), getD_drop, Nat.add_assoc]
  exact hc (k + j) (by omega)
/-- 'clear' of n > 0 elements of s cells each. -/
theorem run_clear_flat {P : Program} (w : World) (t e ty : TypeId) (z : Value) (s : Nat) (ht : P.underlying t = some (.slice e)) (hv : ∀ w, (zeroValue e).run P w = .ok z w) (hz : z.cells = Array.replicate s (.int .i64 0)) (b o n c : Nat) (hn : 0 < n)
    (hc : ∀ j, j < n * s → (w.cell? ⟨b, o + j, none⟩).isSome = true) (hf : ∀ j, j < n * s → w.frozen? ⟨b, o + j, none⟩ = false) :
    (Builtin.clear_ #[t] ty #[.slice (some ⟨b, o, none⟩) n c]).run P w = .ok (.tuple #[]) (w.setCells b o (zeros (n * s))) := by
  have hzc := zeroCells_flat hz n
  have hst := run_storeCells_cells (P := P) b o (zeros (n * s)) 0 w (by simpa [zeros_length] using hc) (by simpa [zeros_length] using hf) (by intro v hv'; rw [List.eq_of_mem_replicate hv']; rfl)
  simp only [Nat.add_zero] at hst
  obtain ⟨m, rfl⟩ : ∃ m, n = m + 1 := ⟨n - 1, by omega⟩
  simp [Builtin.clear_, run_underlying ht, hv, hzc, hst]
/-- 'copy' of k elements of s cells each. -/
theorem run_copy_flat {P : Program} (w : World) (dT sT ty elem : TypeId) (s k b o dLen dCap : Nat) (a : Addr) (sLen sCap : Nat) (cs : List Value)
    (hu : P.underlying dT = some (.slice elem)) (hs : (P.info? elem).map (·.size) = some s) (hk : k = Nat.min sLen dLen) (hn : cs.length = k * s)
    (hsrc : ∀ j v, cs[j]? = some v → w.cell? (a.add j) = some v) (hc : ∀ j, j < cs.length → (w.cell? ⟨b, o + j, none⟩).isSome = true) (hf : ∀ j, j < cs.length → w.frozen? ⟨b, o + j, none⟩ = false) (h1 : ∀ v ∈ cs, v.oneCell' = true) :
    (Builtin.copy_ #[dT, sT] ty #[.slice (some ⟨b, o, none⟩) dLen dCap, .slice (some a) sLen sCap]).run P w = .ok (goInt k) (w.setCells b o cs) := by
  have hl := run_loadCells_list (P := P) w a cs hsrc
  have hst := run_storeCells_cells (P := P) b o cs 0 w (by simpa using hc) (by simpa using hf) h1
  cases hq : P.info? elem with
  | none => simp [hq] at hs
  | some i =>
    have hi : i.size = s := by simpa [hq] using hs
    simp [Builtin.copy_, run_underlying hu, Builtin.lenOf, Builtin.firstCells, sizeOf, typeInfo, hq, hi, ← hk, ← hn, hl, hst]
theorem wpList_copy_runI {P : Program} (w : World) {ops : Array Oper} {rest : List Oper} {o : Oper} {a : Act} {Q : Exit → Act → World → Prop} (hgd : o.guard = none) (d s : Operand) (t t' : TypeId)
    (ho : o.op = .call { callee := .builtin .copy, args := #[d, s], argTypes := #[t, t'] }) (v u : Value) (hd : a.eval d = v) (hs : a.eval s = u) {v' : Value} {w' : World}
    (hr : (Builtin.copy_ #[t, t'] o.type #[v, u]).run P w = .ok v' w') (h : wpList P ops Q rest (a.put o.dst v') w') : wpList P ops Q (o :: rest) a w := by
  refine wpList_plain hgd fun _ hK => ?_
  unfold Oper.wp execOp
  simp only [ho, resolve, invoke, builtin, Sem.run_bind, Sem.run_pure, Result.andThen_ok, List.map_toArray, List.map_cons, List.map_nil, hd, hs, hr]
  exact hK _ _ h
theorem step_copy_runI {P : Program} {ops : Array Oper} {o : Oper} {a : Act} {w : World} {K : Act → World → Prop} {Q : Exit → Act → World → Prop} {E : Prop}
    (hg : o.guard = none) (d x : Operand) (dT sT : TypeId) (hop : o.op = Op.call { callee := Callee.builtin Builtin.copy, args := #[d, x], argTypes := #[dT, sT] })
    (v u : Value) (hd : a.eval d = v) (hx : a.eval x = u) {v' : Value} {w' : World} (hr : (Builtin.copy_ #[dT, sT] o.type #[v, u]).run P w = .ok v' w') (hK : K (a.put o.dst v') w') :
    if Region.wanted o (yielded ops a.tmps) = true then Oper.wp P o a w K Q else E := by
  have hw : Region.wanted o (yielded ops a.tmps) = true := by simp [Region.wanted, hg]
  rw [if_pos hw]
  unfold Oper.wp
  simp [execOp, hop, resolve, invoke, builtin, hd, hx, hr, Result.andThen]
  exact hK
theorem Blk.shape {w : World} {g : Nat} {e : TypeId} {cs : Array Value} (h : Blk w g e cs) : w.shape? g = some (e, cs.size) := by
  unfold Blk at h
  simp [World.shape?, h]
/-- zs with vs laid in at place o. -/
theorem ins_getD (zs vs : List Int) (o t : Nat) (ho : o ≤ zs.length) : (zs.take o ++ vs ++ zs.drop o).getD t 0 = if t < o then zs.getD t 0 else if t < o + vs.length then vs.getD (t - o) 0 else zs.getD (t - vs.length) 0 := by
  have hl : (zs.take o).length = o := by simp; omega
  split
  · rename_i h
    rw [getD_append_l _ _ _ (by rw [List.length_append]; omega), getD_append_l _ _ _ (by omega), getD_take _ _ _ h]
  · split
    · rename_i h1 h2
      rw [getD_append_l _ _ _ (by rw [List.length_append]; omega), getD_append_r _ _ _ (by omega), hl]
    · rename_i h1 h2
      rw [getD_append_r _ _ _ (by rw [List.length_append]; omega), List.length_append, hl, getD_drop]
      congr 1
      omega
end Go.Proofs.Ytckbnfgdjdppfaa
