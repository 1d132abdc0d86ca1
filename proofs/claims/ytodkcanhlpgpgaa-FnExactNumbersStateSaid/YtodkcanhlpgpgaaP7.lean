/- CutOut: the copy, and the reference's. -/
import Derived.Test.YtodkcanhlpgpgaaP4
import Derived.Test.YtodkcanhlpgpgaaSPair
import Derived.Test.YtodkcanhlpgpgaaApp
import Derived.Test.YtodkcanhlpgpgaaApp2
import Derived.Laws.AppendOwnNone
namespace Go.Proofs.Ytodkcanhlpgpgaa
set_option linter.unusedSimpArgs false
set_option linter.unusedVariables false
attribute [local go_sem] n_lt2 n_lt3 n_lt4 n_le2 n_le3
open Go.RowKit

def RetRowB (w : World) (E s n : Nat) (zs : List Int) (b : Bool) (e : Ending) (w' : World) : Prop := ∃ A cap, e = .returned (.tuple #[.slice A n cap, .bool b]) ∧ Row w' w.heap.size E s A n cap zs ∧ Below w.heap.size w w'
theorem row0p {w : World} {g lo : Nat} {E : TypeId} {s : Nat} (h : Blk w g E #[]) (hlo : lo ≤ g) : Row w lo E s (some ⟨g, 0, none⟩) 0 0 [] :=
  h.row hlo (by simp [maxLen]) (by simp) (by simp) (fun j hj => absurd hj (by omega))
theorem sl_news {w : World} {A : Option Addr} {n s : Nat} {zs : List Int} {ad : Addr} (h : Sl w s A n zs) (hA : A = some ad) : ∀ j u, (ints zs)[j]? = some u → w.cell? (ad.add j) = some u := fun j u hu => by
  have hj : j < zs.length := by
    rcases Nat.lt_or_ge j zs.length with h1 | h1
    · exact h1
    · rw [List.getElem?_eq_none (by rw [ints_length]; exact h1)] at hu
      cases hu
  have hlen := h.len
  have hn : 0 < n := by
    rcases Nat.eq_zero_or_pos n with h0 | h0
    · subst h0; omega
    · exact h0
  obtain ⟨b, off, hb, _, hc⟩ := h.at_ hn
  rw [hA] at hb
  obtain rfl := Option.some.inj hb
  have hadd : (⟨b, off, none⟩ : Addr).add j = ⟨b, off + j, none⟩ := by unfold Addr.add; split <;> simp_all
  rw [hadd, hc j (by omega), ← hu]
  exact (ints_get zs j hj).symm
def cutL (l : List Pr) (key : Int) : List Pr := l.filter (fun p => !decide (p.k = key))
theorem cutL_take {l : List Pr} {k : Nat} {key : Int} (h : k < l.length) : cutL (l.take (k + 1)) key = cutL (l.take k) key ++ (if (l.getD k default).k = key then [] else [l.getD k default]) := by
  unfold cutL
  rw [List.take_add_one, List.filter_append]
  congr 1
  simp only [List.getElem?_eq_getElem h, Option.toList_some, List.getD, Option.getD_some]
  by_cases hk : l[k].k = key <;> simp [hk]
theorem cutL_le (l : List Pr) (key : Int) : (cutL l key).length ≤ l.length := List.length_filter_le _ _
attribute [local go_sem] Ext.cell Ext.frozen

set_option maxRecDepth 100000 in
set_option maxHeartbeats 2000000 in
theorem specCutOut_any (A : Option Addr) (n cap : Nat) (l : List Pr) (key : Int) (w : World) (hS : Sl w 2 A n (PR l)) (hl : l.length = n) (hn : n ≤ maxLen) :
    Calls Try.prog 122 #[.slice A n cap, .int .i64 key] w (if pairsB l = true then RetRowB w 114 2 (cutL l key).length (PR (cutL l key)) (decide ((cutL l key).length < n)) else RetRowB w 114 2 0 [] false) := by
  have c1 := specPairsOk_any A n cap l w hS hl hn
  by_cases hpa : pairsB l = true
  · have h10 : n ≤ 10 := by have := pairsB_len hpa; omega
    rw [if_pos hpa]
    rw [hpa] at c1
    have hL := Lib.hid hl
    have HS := Lib.hid hS
    clear hpa hl hS
    unfold maxLen at hn
    go_enter Try.func122, Try.ntmps122
    go_wp2_with fail
    refine c1.mono ?_
    rintro e w1 ⟨rfl, b1⟩
    go_wp2
    go_loopw [6, 7] (fun o i wr => ∃ k A0 n0 c0 zs, k ≤ n ∧ n0 ≤ k ∧ i = .int .i64 (k : Nat) ∧ o = .slice A0 n0 c0 ∧ Row wr w.heap.size 114 2 A0 n0 c0 zs ∧ Hid (zs = PR (cutL (l.take k) key)) ∧ Below w.heap.size w wr) (fun _ i _ => n - (intOf i).toNat)
    case atStart => exact ⟨0, _, _, _, _, by omega, Nat.le_refl _, rfl, rfl, row0p (Blk.new w1 _ _) b1.size, Lib.hid rfl, b1.alloc b1.size _⟩
    case round =>
      obtain ⟨k, A0, n0, c0, zs, hk, hn0, rfl, rfl, R, hz, hbl⟩ := hrel
      by_cases hlt : k < n
      · obtain ⟨b, off, rfl, hb, hcell⟩ := sl_pairs HS.out (by omega)
        have h0 := (hcell k hlt).1
        have h1 := (hcell k hlt).2
        clear hcell
        rw [← hbl.cell (by exact hb)] at h0 h1
        generalize hp : l.getD k default = p at h0 h1
        obtain ⟨x, y⟩ := p
        simp only at h0 h1
        have HP := Lib.hid hp
        clear hp
        have hbr : b < wr.heap.size := Nat.lt_of_lt_of_le hb hbl.size
        by_cases hx : x = key
        · subst hx
          have HE := Lib.hid (show PR (cutL (l.take (k + 1)) x) = PR (cutL (l.take k) x) by rw [cutL_take (hL.out.symm ▸ hlt), HP.out, if_pos rfl, List.append_nil])
          go_wp2
          exact ⟨⟨k + 1, A0, n0, c0, zs, by omega, by omega, by go_num, rfl, R, Lib.hid (by rw [HE.out, hz.out]), hbl⟩, by simp [intOf]; omega⟩
        · have hx' : (x == key) = false := by simpa using hx
          have HE := Lib.hid (show PR (cutL (l.take (k + 1)) key) = PR (cutL (l.take k) key) ++ [x, y] by rw [cutL_take (hL.out.symm ▸ hlt), HP.out, if_neg hx, PR_append]; rfl)
          go_wp2_with (at_builtin; refine wpList_append_row rfl _ _ 30 rfl 114 (.agg #[.int .i64 0, .int .i64 0]) 2 16 Try.underlying30 info_Pair (by first | kernel_rfl | simp [Value.cells]) (by decide) w.heap.size A0 n0 c0 zs rfl (World.ownsRow.alloc R _) ⟨wr.heap.size, 0, none⟩ 1 1 [x, y] rfl rfl (cell_two_new _ _ _ _) (by unfold maxLen; omega) (by omega) (by have := hbl.size; simp; omega) ?_; intro A5 c5 w5 R5 B5)
          exact ⟨⟨k + 1, A5, _, c5, _, by omega, by omega, by go_num, rfl, R5, Lib.hid (by rw [HE.out, hz.out]), (hbl.alloc hbl.size _).trans B5⟩, by simp [intOf]; omega⟩
      · have hkn : k = n := by omega
        subst hkn
        have hzz := hz.out
        rw [List.take_of_length_le (by have := hL.out; omega)] at hzz
        have hnn : n0 = (cutL l key).length := by
          have := R.len
          rw [hzz, PR_len] at this
          omega
        have HN := Lib.hid hnn
        clear hnn
        go_wp2
        refine bodyPost_ret (v := .tuple #[.slice A0 n0 c0, .bool (decide ((n0 : Int) < (k : Int)))]) (by simp [results, Try.results122, go_sem, *]) rfl ⟨A0, c0, ?_, ?_, hbl⟩
        · rw [← HN.out]; simp
        · rw [← HN.out, ← hzz]; exact R
  · have hpa' : pairsB l = false := by simpa using hpa
    rw [if_neg hpa]
    rw [hpa'] at c1
    go_enter Try.func122, Try.ntmps122
    go_wp2_with fail
    refine c1.mono ?_
    rintro e w1 ⟨rfl, b1⟩
    go_wp2
    refine bodyPost_ret (v := .tuple #[.slice (some ⟨w1.heap.size, 0, none⟩) 0 0, .bool false]) (by simp [results, Try.results122, go_sem, *]) rfl ⟨_, _, rfl, row0p (Blk.new w1 _ _) b1.size, b1.alloc b1.size _⟩
end Go.Proofs.Ytodkcanhlpgpgaa
