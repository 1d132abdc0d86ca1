/- The row cursor: put. -/
import Derived.Test.YtgpllffiahccjaaApp2
import Derived.Test.YtgpllffiahccjaaSInt64
import Derived.Test.YtgpllffiahccjaaNm
namespace Go.Proofs.Ytgpllffiahccjaa
set_option linter.unusedSimpArgs false
set_option linter.unusedVariables false
attribute [local go_sem] n_lt2 n_lt3 n_lt4 n_le2 n_le3
open Go.RowKit
attribute [local go_sem] Ext.cell Ext.frozen

theorem row1i {w : World} {g lo : Nat} {E : TypeId} {a : Int} (h : Blk w g E #[.int .i64 a]) (hlo : lo ≤ g) : Row w lo E 1 (some ⟨g, 0, none⟩) 1 1 [a] := by
  refine h.row hlo (by simp [maxLen]) rfl rfl ?_
  intro j hj
  have hj0 : j = 0 := by omega
  subst hj0
  rfl
/-- Block p is a cursor that holds the row zs. -/
def Cur (w : World) (lo p E C : Nat) (n : Nat) (zs : List Int) : Prop :=
  ∃ A cap, Blk w p C #[.slice A n cap, .int .i64 0] ∧ Row w lo E 1 A n cap zs ∧ (∀ a, A = some a → a.block ≠ p) ∧ lo ≤ p
theorem Cur.alloc {w : World} {lo p E C n : Nat} {zs : List Int} (h : Cur w lo p E C n zs) (o : Obj) : Cur (w.alloc o) lo p E C n zs := by
  obtain ⟨A, cap, K, R, hne, hlo⟩ := h
  exact ⟨A, cap, K.alloc o, World.ownsRow.alloc R o, hne, hlo⟩
theorem Cur.lt {w : World} {lo p E C n : Nat} {zs : List Int} (h : Cur w lo p E C n zs) : p < w.heap.size := by
  obtain ⟨A, cap, K, _⟩ := h
  exact K.lt
set_option maxHeartbeats 800000 in
theorem put_any (lo p n m c : Nat) (zs news : List Int) (B : Addr) (w : World) (h : Cur w lo p 2 104 n zs) (hm : news.length = m) (hnews : ∀ j u, (ints news)[j]? = some u → w.cell? (B.add j) = some u) (hn : n + m ≤ 100000) :
    Calls Try.prog 128 #[.pointer (some ⟨p, 0, none⟩), .slice (some B) m c] w fun e w' => e = .returned (.tuple #[]) ∧ Cur w' lo p 2 104 (n + m) (zs ++ news) ∧ Below lo w w' := by
  obtain ⟨A, cap, K, R, hne, hlo⟩ := h
  have HN := Lib.hid hnews
  have HE := Lib.hid hne
  clear hnews hne
  have q0 : w.cell? ⟨p, 0, none⟩ = some (.slice A n cap) := K.cell 0
  have qf := K.frozen 0
  have hlt := K.lt
  go_enter Try.func128, Try.ntmps128
  go_wp2_with (at_builtin; refine wpList_append_row2 rfl _ _ 39 rfl 2 (.int .i64 0) 1 8 Try.underlying39 info_Int64 rfl (by decide) lo A n cap zs rfl R B m c news rfl (by omega) HN.out (by unfold maxLen; omega) (by omega) (by omega) ?_; intro A5 c5 w5 R5 B5 W5 L5; have K5 : Blk w5 p 104 #[.slice A n cap, .int .i64 0] := (World.grownBy.block W5 p hlt (by intro h'; cases A with | none => simp at h' | some a => simp at h'; exact HE.out a rfl h'.symm)).trans K; have r0 : w5.cell? ⟨p, 0, none⟩ = some (.slice A n cap) := K5.cell 0; have rf := K5.frozen 0; have hl5 := K5.lt)

  go_end0
  have hne5 : ∀ a, A5 = some a → a.block ≠ p := fun a ha => by
    rcases L5 a ha with ⟨a0, h1, h2⟩ | h2
    · rw [← h2]; exact HE.out a0 h1
    · omega
  refine ⟨rfl, ⟨A5, c5, K5.set_ 0 _, ?_, hne5, hlo⟩, B5.setCell hlo _⟩
  exact R5.keep (fun a ha => Below.heap_setCell w5 _ _ a.block (hne5 a ha))
end Go.Proofs.Ytgpllffiahccjaa
