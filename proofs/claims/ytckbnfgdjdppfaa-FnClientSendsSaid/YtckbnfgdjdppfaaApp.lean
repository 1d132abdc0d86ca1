/- append onto a row of the call's own. -/
import Derived.Test.YtckbnfgdjdppfaaMem
import Derived.OwnWalk
import Derived.WalkSpells
namespace Go.Proofs.Ytckbnfgdjdppfaa
set_option linter.unusedSimpArgs false
set_option linter.unusedVariables false
attribute [local go_sem] n_lt2 n_lt3 n_lt4 n_le2 n_le3
open Go.RowKit

theorem wpList_append_row {P : Program} {ops : Array Oper} {rest : List Oper} {o : Oper} {a : Act} {w : World} {Q : Exit → Act → World → Prop} (hgd : o.guard = none) (s x : Operand) (t : TypeId)
    (ho : o.op = .call { callee := .builtin .append, args := #[s, x], argTypes := #[t, t] })
    (e : TypeId) (z : Value) (size bytes : Nat) (ht : P.underlying t = some (.slice e)) (hinfo : (P.info? e).map (fun i => (i.zero, i.size, i.bytes)) = some (some z, size, bytes)) (hzs : z.cells.size = size) (hsz : 0 < size)
    (lo : Nat) (A : Option Addr) (n cap : Nat) (xs : List Int) (hs : a.eval s = .slice A n cap) (hR : Row w lo e size A n cap xs)
    (ad : Addr) (m c : Nat) (news : List Int) (hx : a.eval x = .slice (some ad) m c) (hl : news.length = m * size) (hnews : ∀ j u, (ints news)[j]? = some u → w.cell? (ad.add j) = some u)
    (h63 : n + m ≤ maxLen) (hbytes : (n + m) * bytes ≤ 140737488355328) (hlo : lo ≤ w.heap.size)
    (h : ∀ A' cap' w', Row w' lo e size A' (n + m) cap' (xs ++ news) → Below lo w w' → wpList P ops Q rest (a.put o.dst (.slice A' (n + m) cap')) w') :
    wpList P ops Q (o :: rest) a w := by
  obtain ⟨i, hi, hiz, his, hib⟩ : ∃ i, P.info? e = some i ∧ i.zero = some z ∧ i.size = size ∧ i.bytes = bytes := by
    cases hq : P.info? e with
    | none => rw [hq] at hinfo; simp at hinfo
    | some i =>
      rw [hq] at hinfo
      simp only [Option.map_some, Option.some.injEq, Prod.mk.injEq] at hinfo
      exact ⟨i, rfl, hinfo.1, hinfo.2.1, hinfo.2.2⟩
  refine wpList_append_own_at _ hgd s x t ho lo e i z size bytes ht hi hiz his hib hzs hsz _ n (ints xs) hs hR ad m c (ints news) hx (by rw [ints_length]; exact hl) hnews (ints_oneCell' news) h63 hbytes hlo ?_
  intro v' w' hown hg _ _
  rw [← ints_append] at hown
  have hb : Below lo w w' := (Below.refl lo w).grown hg hlo (fun k hk => by
    cases A with
    | none => simp [Value.ownBlock] at hk
    | some a0 =>
      simp only [Value.ownBlock, Option.some.injEq] at hk
      subst hk
      exact hR.ge a0 rfl)
  rcases hown.2 with ⟨rfl, h0⟩ | ⟨g, c', cur, rfl, _⟩
  · have hn0 : n + m = 0 := h0
    rw [hn0] at h hown
    exact h none 0 w' hown hb
  · exact h _ _ w' hown hb
end Go.Proofs.Ytckbnfgdjdppfaa
