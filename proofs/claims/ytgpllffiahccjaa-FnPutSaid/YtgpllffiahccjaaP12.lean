/- Put: the program's. -/
import Derived.Test.YtgpllffiahccjaaP11
import Derived.Test.YtgpllffiahccjaaP10
namespace Go.Proofs.Ytgpllffiahccjaa
set_option linter.unusedSimpArgs false
set_option linter.unusedVariables false
attribute [local go_sem] n_lt2 n_lt3 n_lt4 n_le2 n_le3
open Go.RowKit
attribute [local go_sem] Ext.cell Ext.frozen

theorem putSet_row {w : World} {g lo n cap k : Nat} {cs : Array Value} {l : List Pr} {key v : Int} (K : Blk w g 101 cs) (hlo : lo ≤ g) (hnc : n ≤ cap) (hcm : cap ≤ maxLen) (hcs : cs.size = cap * 2) (hl : l.length = n) (hj : ∀ j, j < n * 2 → cs[j]? = some (.int .i64 ((PR l).getD j 0)))
    (hk : k < n) (he : (l.getD k default).k = key) : Row (w.setCell ⟨g, k * 2 + 1, none⟩ (.int .i64 v)) lo 101 2 (some ⟨g, 0, none⟩) n cap (PR (l.set k ⟨key, v⟩)) := by
  refine Row.of_blk (K.set_ _ _) hlo hnc hcm (by simpa using hcs) (by rw [PR_len]; simp; omega) (fun t ht => ?_)
  rw [PR_set_getD l k key v (by omega) he t (by omega)]
  by_cases h : t = k * 2 + 1
  · subst h
    rw [if_pos rfl, Array.getElem?_setIfInBounds_self_of_lt (by omega)]
  · rw [if_neg h, Array.getElem?_setIfInBounds_ne (by omega), hj t ht]
set_option maxRecDepth 100000 in
set_option maxHeartbeats 4000000 in
theorem put_walk (A : Option Addr) (n cap : Nat) (l : List Pr) (key v : Int) (w : World) (hS : Sl w 2 A n (PR l)) (hl : l.length = n) (hn : n ≤ maxLen) (hA : A = none → n = 0 ∧ cap = 0) :
    Calls Try.prog 41 #[.slice A n cap, .int .i64 key, .int .i64 v] w (RetPut w l key v) := by
  have c1 := pairsOk_any A n cap l w hS hl hn
  by_cases hpa : pairsB l = true
  · have h10 : n ≤ 10 := by have := pairsB_len hpa; omega
    rw [hpa] at c1
    have HL := Lib.hid hl
    have HS := Lib.hid hS
    by_cases hr : inB key 0 9 = true ∧ inB v 0 999 = true
    · have HR := Lib.hid (show putR l key v = (putL l key v, true) by unfold putR; rw [if_pos hpa, if_pos (by unfold rightB; rw [hr.1, hr.2]; rfl)])
      obtain ⟨hr1, hr2⟩ := hr
      clear hpa hl hS
      go_enter Try.func41, Try.ntmps41
      go_wp2_with fail
      refine c1.mono ?_
      rintro e w1 ⟨rfl, b1⟩
      go_wp2_with fail
      refine (copyPairs_any A n cap l w1 (HS.out.below b1) HL.out (by omega) hA).mono ?_
      rintro e w2 ⟨A2, cap2, rfl, R2, b2⟩
      have hbl := bthen b1 b2
      have R2 := R2.mono b1.size
      have hcp := R2.cap_le
      have hcn := hcp.1
      have hcm := hcp.2
      have hs2 := hbl.size
      have HC := Lib.hid hcm
      unfold maxLen at hcm
      clear b1 b2 c1 hcp
      go_wp2_with (first | (go_at_call 97; refine (keyOk_any _ _).mono ?_; rintro e w' ⟨rfl, rfl⟩) | (go_at_call 98; refine (valueOk_any _ _).mono ?_; rintro e w' ⟨rfl, rfl⟩))
      go_loop [9] (fun i => ∃ k : Nat, k ≤ n ∧ i = .int .i64 (k : Nat) ∧ Hid (∀ j, j < k → (l.getD j default).k < key)) (fun i => n - (intOf i).toNat)
      case atStart => exact ⟨0, Nat.zero_le _, rfl, fun j hj => absurd hj (by omega)⟩
      case round =>
        obtain ⟨k, hk, rfl, hall⟩ := hrel
        by_cases hlt : k < n
        · obtain ⟨g, cs, rfl, hlg, K, _, _, hcs, hj⟩ := R2.blk (by omega)
          have q0 : (w2.cell? ⟨g, k * 2, none⟩) = some (.int .i64 (l.getD k default).k) := by rw [K.cell, hj _ (by omega), PR_get0 l k (by have := HL.out; omega)]
          have HJ := Lib.hid (And.intro hcs (And.intro hlg hj))
          have HK := Lib.hid K
          have hlt' : (k : Int) < (n : Int) := by omega
          generalize hx : (l.getD k default).k = x at q0
          have HX := Lib.hid hx
          clear hx hj hcs K
          by_cases h1 : x < key
          · go_wp2
            exact ⟨⟨k + 1, by omega, by go_num, Lib.hid (fun j hjk => by
              rcases Nat.lt_or_ge j k with h | h
              · exact hall.out j h
              · obtain rfl : j = k := by omega
                rw [HX.out]; exact h1)⟩, by simp [intOf]; omega⟩
          · by_cases h2 : x = key
            · have HE := Lib.hid (putL_set k l key v (by have := HL.out; omega) hall.out (by rw [HX.out, h2]))
              have hcell : ∃ c, w2.cell? ⟨g, k * 2 + 1, none⟩ = some c := HK.out.has (by have := HJ.out.1; omega)
              obtain ⟨c, hc1⟩ := hcell
              have hf := HK.out.frozen (k * 2 + 1)
              subst h2
              go_wp2
              refine bodyPost_ret (v := .tuple #[.slice (some ⟨g, 0, none⟩) n cap2, .bool true]) (by simp [results, Try.results41, go_sem, *]) rfl ?_
              refine retPut (HR.out.trans (by rw [HE.out])) (by simpa using HL.out.symm) (putSet_row HK.out HJ.out.2.1 hcn HC.out HJ.out.1 HL.out HJ.out.2.2 hlt HX.out) (hbl.setCell HJ.out.2.1 _)
            · have h2' : (x == key) = false := by simpa using h2
              have HE := Lib.hid (putL_ins k l key v (by have := HL.out; omega) hall.out (fun _ => by rw [HX.out]; omega))
              go_wp2_with fail
              refine calls_named ?_
              rintro wq hwq
              have Rq : Row wq w.heap.size 101 2 (some ⟨g, 0, none⟩) n cap2 (PR l) := by rw [hwq]; exact World.ownsRow.alloc R2 _
              have V : Blk wq w2.heap.size 101 (ints [key, v]).toArray := by rw [hwq]; exact Blk.new _ _ _
              have fq : Below w.heap.size w wq := by rw [hwq]; exact hbl.alloc hs2 _
              have hgl := HK.out.lt
              clear hwq
              refine (insertPair_any w.heap.size (some ⟨g, 0, none⟩) n cap2 k w2.heap.size (PR l) [key, v] wq Rq fq.size (by omega) hk rfl V (fun a ha => by obtain rfl := Option.some.inj ha; exact Nat.ne_of_lt hgl)).mono ?_
              rintro e w4 ⟨A4, c4, rfl, R4, b4⟩
              go_wp2
              refine bodyPost_ret (v := .tuple #[.slice A4 (n + 1) c4, .bool true]) (by simp [results, Try.results41, go_sem, *]) rfl ?_
              rw [← PR_ins] at R4
              refine retPut (HR.out.trans (by rw [HE.out])) ?_ R4 (fq.trans b4)
              have := HL.out
              simp; omega
        · have hkn : k = n := by omega
          subst hkn
          have HE := Lib.hid (putL_ins k l key v (by have := HL.out; omega) hall.out (fun h => absurd h (by have := HL.out; omega)))
          have hltA := R2.lt
          go_wp2_with fail
          refine calls_named ?_
          rintro wq hwq
          have Rq : Row wq w.heap.size 101 2 A2 k cap2 (PR l) := by rw [hwq]; exact World.ownsRow.alloc R2 _
          have V : Blk wq w2.heap.size 101 (ints [key, v]).toArray := by rw [hwq]; exact Blk.new _ _ _
          have fq : Below w.heap.size w wq := by rw [hwq]; exact hbl.alloc hs2 _
          clear hwq
          refine (insertPair_any w.heap.size A2 k cap2 k w2.heap.size (PR l) [key, v] wq Rq fq.size (by omega) hk rfl V (fun a ha => Nat.ne_of_lt (hltA a ha))).mono ?_
          rintro e w4 ⟨A4, c4, rfl, R4, b4⟩
          go_wp2
          refine bodyPost_ret (v := .tuple #[.slice A4 (k + 1) c4, .bool true]) (by simp [results, Try.results41, go_sem, *]) rfl ?_
          rw [← PR_ins] at R4
          refine retPut (HR.out.trans (by rw [HE.out])) ?_ R4 (fq.trans b4)
          have := HL.out
          simp; omega
    · have HR := Lib.hid (show putR l key v = (l, false) by
        unfold putR
        rw [if_pos hpa, if_neg]
        intro h
        unfold rightB at h
        simp only [Bool.and_eq_true] at h
        exact hr h)
      have hcs : inB key 0 9 = false ∨ (inB key 0 9 = true ∧ inB v 0 999 = false) := by
        by_cases h1 : inB key 0 9 = true
        · exact .inr ⟨h1, by rw [← Bool.not_eq_true]; exact fun h2 => hr ⟨h1, h2⟩⟩
        · exact .inl (by simpa using h1)
      clear hpa hl hS hr
      rcases hcs with hr1 | ⟨hr1, hr2⟩
      all_goals
        go_enter Try.func41, Try.ntmps41
        go_wp2_with fail
        refine c1.mono ?_
        rintro e w1 ⟨rfl, b1⟩
        go_wp2_with fail
        refine (copyPairs_any A n cap l w1 (HS.out.below b1) HL.out (by omega) hA).mono ?_
        rintro e w2 ⟨A2, cap2, rfl, R2, b2⟩
        go_wp2_with (first | (go_at_call 97; refine (keyOk_any _ _).mono ?_; rintro e w' ⟨rfl, rfl⟩) | (go_at_call 98; refine (valueOk_any _ _).mono ?_; rintro e w' ⟨rfl, rfl⟩))
        refine bodyPost_ret (v := .tuple #[.slice A2 n cap2, .bool false]) (by simp [results, Try.results41, go_sem, *]) rfl ?_
        exact retPut HR.out HL.out.symm (R2.mono b1.size) (bthen b1 b2)
  · have hpa' : pairsB l = false := by simpa using hpa
    have HR := Lib.hid (show putR l key v = ([], false) by unfold putR; rw [if_neg hpa])
    rw [hpa'] at c1
    go_enter Try.func41, Try.ntmps41
    go_wp2_with fail
    refine c1.mono ?_
    rintro e w1 ⟨rfl, b1⟩
    go_wp2
    refine bodyPost_ret (v := .tuple #[.slice none 0 0, .bool false]) (by simp [results, Try.results41, go_sem, *]) rfl ?_
    exact retPut HR.out rfl (Row.nil _ _ _ _) b1
theorem putRI_any (A : Option Addr) (n cap : Nat) (l : List Pr) (key v : Int) (w : World) (hS : Sl w 2 A n (PR l)) (hl : l.length = n) (hn : n ≤ maxLen) (hA : A = none → n = 0 ∧ cap = 0) :
    Calls Try.prog 41 #[.slice A n cap, .int .i64 key, .int .i64 v] w (RetRowB w 101 2 (putR l key v).1.length (PR (putR l key v).1) (putR l key v).2) := put_walk A n cap l key v w hS hl hn hA
theorem putRS_any (A : Option Addr) (n cap : Nat) (l : List Pr) (key v : Int) (w : World) (hS : Sl w 2 A n (PR l)) (hl : l.length = n) (hn : n ≤ maxLen) (hA : A = none → n = 0 ∧ cap = 0) :
    Calls Try.prog 40 #[.slice A n cap, .int .i64 key, .int .i64 v] w (RetRowB w 101 2 (putR l key v).1.length (PR (putR l key v).1) (putR l key v).2) := specPut_any A n cap l key v w hS hl hn hA
end Go.Proofs.Ytgpllffiahccjaa
