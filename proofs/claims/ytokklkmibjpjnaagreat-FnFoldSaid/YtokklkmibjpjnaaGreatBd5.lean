/- Part 5 of what the claim rests on: J9, T2, T3, T3Y1, T3Y2, T3Y3, T3Y4, T3Y5. No condition of its own. -/
import Derived.Test.YtokklkmibjpjnaaGreatBd4
import Derived.Deep.DeepCutAuto
import Derived.Deep.RegionHeldLaw
import Derived.Laws.EntriesVeiled
namespace Go.Proofs.YtokklkmibjpjnaaGreat
set_option linter.unusedSimpArgs false
set_option linter.unusedVariables false
attribute [local go_sem] n_lt2 n_lt3 n_lt4 n_le2 n_le3
open Go.RowKit
attribute [local go_sem] Ext.cell Ext.frozen

/-- The reference's two running values. -/
def idxTo (l : List Jb) (x : Int) (k : Nat) : Int := if firedBefore l k x = true then 0 else x
def atTo (l : List Jb) (id : Int) (k : Nat) : Int := if jobIx l id < k ∧ jobIx l id < l.length ∧ (l.getD (jobIx l id) default).f = 0 then (jobIx l id : Int) else -1
theorem idxTo_hit {l : List Jb} {x : Int} {k : Nat} (h : (l.getD k default).f = idxTo l x k) : idxTo l x (k + 1) = 0 := by
  unfold idxTo at h ⊢
  rw [firedBefore_succ]
  by_cases hb : firedBefore l k x = true
  · rw [hb]; rfl
  · have hb' : firedBefore l k x = false := by simpa using hb
    rw [if_neg hb] at h
    rw [hb', decide_eq_true h]
    rfl
theorem idxTo_miss {l : List Jb} {x : Int} {k : Nat} (h : ¬ (l.getD k default).f = idxTo l x k) : idxTo l x (k + 1) = idxTo l x k := by
  unfold idxTo at h ⊢
  rw [firedBefore_succ]
  by_cases hb : firedBefore l k x = true
  · rw [hb]; rfl
  · have hb' : firedBefore l k x = false := by simpa using hb
    rw [if_neg hb] at h
    rw [hb', decide_eq_false h]
    rfl
theorem atTo_hit {l : List Jb} {id : Int} {k : Nat} (hb : jobsB l = true) (hk : k < l.length) (h1 : (l.getD k default).i = id) (h2 : (l.getD k default).f = 0) : atTo l id (k + 1) = k := by
  unfold atTo
  rw [jobIx_at hb hk h1, if_pos ⟨by omega, hk, h2⟩]
theorem atTo_miss {l : List Jb} {id : Int} {k : Nat} (hk : k < l.length) (h : ¬ ((l.getD k default).i = id ∧ (l.getD k default).f = 0)) : atTo l id (k + 1) = atTo l id k := by
  unfold atTo
  by_cases hx : jobIx l id = k
  · rw [hx, if_neg (fun h' => h ⟨by rw [← hx]; exact jobIx_hit (by omega), h'.2.2⟩), if_neg (fun h' => by omega)]
  · by_cases h1 : jobIx l id < k ∧ jobIx l id < l.length ∧ (l.getD (jobIx l id) default).f = 0
    · rw [if_pos h1, if_pos ⟨by omega, h1.2⟩]
    · rw [if_neg h1, if_neg (fun h' => h1 ⟨by omega, h'.2⟩)]
set_option maxRecDepth 100000 in
set_option maxHeartbeats 4000000 in
theorem specJobFired_walk (A : Option Addr) (n cap : Nat) (l : List Jb) (id x : Int) (w : World) (hS : Sl w 5 A n (JB l)) (hl : l.length = n) (hn : n ≤ maxLen) (hA : A = none → n = 0 ∧ cap = 0) :
    Calls Tryz.prog 34 #[.slice A n cap, .int .i64 id, .int .i64 x] w (RetJobs w (firedR l id x)) := by
  have c1 := specJobsOk_any A n cap l w hS hl hn
  by_cases hpa : jobsB l = true
  · have h8 : n ≤ 8 := by have := (jobsB_all hpa).1; omega
    rw [hpa] at c1
    have HL := Lib.hid hl
    have HS := Lib.hid hS
    have HPA := Lib.hid hpa
    clear hpa hl hS
    go_enter Tryz.func34, Tryz.ntmps34
    go_wp2_with fail
    refine c1.mono ?_
    rintro e w1 ⟨rfl, b1⟩
    go_wp2_with fail
    refine (l15Copy_any A n cap l w1 (HS.out.below b1) HL.out (by omega) hA).mono ?_
    rintro e w2 ⟨A2, cap2, rfl, R2, b2⟩
    have f2 := bthen b1 b2
    have R2 := R2.mono b1.size
    have S2 := Lib.hid (HS.out.below f2)
    clear b1 b2 c1
    go_wp2
    go_loop [2, 9, 10] (fun xi ai i => ∃ k : Nat, k ≤ n ∧ i = .int .i64 (k : Nat) ∧ xi = .int .i64 (idxTo l x k) ∧ ai = .int .i64 (atTo l id k)) (fun _ _ i => n - (intOf i).toNat)
    case atStart => exact ⟨0, Nat.zero_le _, rfl, by simp [idxTo, firedBefore], by simp [atTo]⟩
    case round =>
      obtain ⟨k, hk, rfl, rfl, rfl⟩ := hrel
      by_cases hlt : k < n
      · obtain ⟨b, off, rfl, hb, hcell⟩ := sl_jobs S2.out (by omega)
        obtain ⟨h0, _, _, _, h4⟩ := hcell k hlt
        clear hcell
        have hlt' : (k : Int) < (n : Int) := by omega
        have hkl : k < l.length := by have := HL.out; omega
        have e1 := Lib.hid (@idxTo_hit l x k)
        have e2 := Lib.hid (@idxTo_miss l x k)
        have e3 := Lib.hid (@atTo_hit l id k HPA.out hkl)
        have e4 := Lib.hid (@atTo_miss l id k hkl)
        generalize hp : l.getD k default = p at h0 h4
        obtain ⟨y0, y1, y2, y3, y4⟩ := p
        simp only at h0 h4
        generalize hc : idxTo l x k = c
        generalize ha : atTo l id k = a
        have HP := Lib.hid (And.intro hp (And.intro hc ha))
        clear hp hc ha hkl
        by_cases hf : y4 = c
        · have hx := Lib.hid (e1.out (by rw [HP.out.1, HP.out.2.1]; exact hf))
          by_cases hi : y0 = id
          · by_cases hz : y4 = 0
            · have hat := Lib.hid (e3.out (by rw [HP.out.1]; exact hi) (by rw [HP.out.1]; exact hz))
              have hf' : (y4 == c) = true := by simpa using hf
              have hi' : (y0 == id) = true := by simpa using hi
              have hz' : (y4 == 0) = true := by simpa using hz
              clear hf hi hz
              go_wp2
              exact ⟨⟨k + 1, by omega, by go_num, by rw [hx.out], by rw [hat.out]⟩, by simp [intOf]; omega⟩
            · have hat := Lib.hid (e4.out (by rw [HP.out.1]; exact fun h => hz h.2))
              have hf' : (y4 == c) = true := by simpa using hf
              have hi' : (y0 == id) = true := by simpa using hi
              have hz' : (y4 == 0) = false := by simpa using hz
              clear hf hi hz
              go_wp2
              exact ⟨⟨k + 1, by omega, by go_num, by rw [hx.out], by rw [hat.out, HP.out.2.2]⟩, by simp [intOf]; omega⟩
          · have hat := Lib.hid (e4.out (by rw [HP.out.1]; exact fun h => hi h.1))
            have hf' : (y4 == c) = true := by simpa using hf
            have hi' : (y0 == id) = false := by simpa using hi
            clear hf hi
            go_wp2
            exact ⟨⟨k + 1, by omega, by go_num, by rw [hx.out], by rw [hat.out, HP.out.2.2]⟩, by simp [intOf]; omega⟩
        · have hx := Lib.hid (e2.out (by rw [HP.out.1, HP.out.2.1]; exact hf))
          by_cases hi : y0 = id
          · by_cases hz : y4 = 0
            · have hat := Lib.hid (e3.out (by rw [HP.out.1]; exact hi) (by rw [HP.out.1]; exact hz))
              have hf' : (y4 == c) = false := by simpa using hf
              have hi' : (y0 == id) = true := by simpa using hi
              have hz' : (y4 == 0) = true := by simpa using hz
              clear hf hi hz
              go_wp2
              exact ⟨⟨k + 1, by omega, by go_num, by rw [hx.out, HP.out.2.1], by rw [hat.out]⟩, by simp [intOf]; omega⟩
            · have hat := Lib.hid (e4.out (by rw [HP.out.1]; exact fun h => hz h.2))
              have hf' : (y4 == c) = false := by simpa using hf
              have hi' : (y0 == id) = true := by simpa using hi
              have hz' : (y4 == 0) = false := by simpa using hz
              clear hf hi hz
              go_wp2
              exact ⟨⟨k + 1, by omega, by go_num, by rw [hx.out, HP.out.2.1], by rw [hat.out, HP.out.2.2]⟩, by simp [intOf]; omega⟩
          · have hat := Lib.hid (e4.out (by rw [HP.out.1]; exact fun h => hi h.1))
            have hf' : (y4 == c) = false := by simpa using hf
            have hi' : (y0 == id) = false := by simpa using hi
            clear hf hi
            go_wp2
            exact ⟨⟨k + 1, by omega, by go_num, by rw [hx.out, HP.out.2.1], by rw [hat.out, HP.out.2.2]⟩, by simp [intOf]; omega⟩
      · obtain rfl : k = n := by omega
        by_cases hat : jobIx l id < l.length ∧ (l.getD (jobIx l id) default).f = 0
        · obtain ⟨m, hm⟩ : ∃ m, m = jobIx l id := ⟨_, rfl⟩
          have ea : atTo l id k = (m : Int) := by unfold atTo; rw [if_pos ⟨by have := HL.out; omega, hat⟩, hm]
          have hmk : m < k := by have := HL.out; omega
          rw [ea]
          by_cases hin : inB (idxTo l x k) 1 2000 = true
          · have hfb : firedBefore l l.length x = false := by
              rw [← Bool.not_eq_true]
              intro h
              unfold idxTo at hin
              rw [← HL.out, if_pos h] at hin
              exact absurd hin (by decide)
            have ei : idxTo l x k = x := by unfold idxTo; rw [← HL.out, hfb]; rfl
            rw [ei] at hin ⊢
            have HF := Lib.hid (show firedR l id x = (firedSet l m x, true) by
              unfold firedR
              rw [if_pos HPA.out, if_pos, hm]
              unfold firedOk
              rw [hfb, hin, decide_eq_true hat.1, decide_eq_true hat.2]
              rfl)
            obtain ⟨g, cs, rfl, hlg, K, hcs, hj, _⟩ := R2.cells5 HL.out (by omega)
            have hcp := R2.cap_le
            have hcm : cap2 ≤ 9223372036854775807 := by have := hcp.2; unfold maxLen at this; omega
            have hmk' : (m : Int) < (k : Int) := by omega
            obtain ⟨c, hc5⟩ : ∃ c, w2.cell? ⟨g, m * 5 + 4, none⟩ = some c := K.has (by have := hcp.1; omega)
            have hfz := K.frozen (m * 5 + 4)
            have HK := Lib.hid (And.intro K (And.intro hcs (And.intro hj hcp)))
            clear K hcs hj hcp hat ei hfb ea hm
            go_wp2_with ((go_at_call 60; refine (l1In_any _ _ _ _).mono ?_; rintro e w' ⟨rfl, rfl⟩))
            refine bodyPost_ret (v := .tuple #[.slice (some ⟨g, 0, none⟩) k cap2, .bool true]) (by simp [results, Tryz.results34, go_sem, *]) rfl ?_
            exact retJobs HF.out (by simp [firedSet, HL.out]) (firedSet_row HK.out.1 hlg HK.out.2.2.2.1 HK.out.2.2.2.2 HK.out.2.1 HL.out HK.out.2.2.1 hmk) (f2.setCell hlg _)
          · have hin' : inB (idxTo l x k) 1 2000 = false := by simpa using hin
            have HF := Lib.hid (show firedR l id x = (l, false) by
              unfold firedR
              rw [if_pos HPA.out, if_neg]
              unfold firedOk
              intro h
              simp only [Bool.and_eq_true, decide_eq_true_eq, Bool.not_eq_true'] at h
              refine hin ?_
              unfold idxTo
              rw [← HL.out, h.2.2.2]
              exact h.2.2.1)
            generalize idxTo l x k = c at hin'
            clear hin hat ea hm
            go_wp2_with ((go_at_call 60; refine (l1In_any _ _ _ _).mono ?_; rintro e w' ⟨rfl, rfl⟩))
            refine bodyPost_ret (v := .tuple #[.slice A2 k cap2, .bool false]) (by simp [results, Tryz.results34, go_sem, *]) rfl ?_
            exact retJobs HF.out HL.out.symm R2 f2
        · have ea : atTo l id k = -1 := by unfold atTo; rw [if_neg (fun h => hat h.2)]
          rw [ea]
          have HF := Lib.hid (show firedR l id x = (l, false) by
            unfold firedR
            rw [if_pos HPA.out, if_neg]
            unfold firedOk
            intro h
            simp only [Bool.and_eq_true, decide_eq_true_eq] at h
            exact hat ⟨h.1, h.2.1⟩)
          generalize idxTo l x k = c
          clear hat ea
          go_wp2
          refine bodyPost_ret (v := .tuple #[.slice A2 k cap2, .bool false]) (by simp [results, Tryz.results34, go_sem, *]) rfl ?_
          exact retJobs HF.out HL.out.symm R2 f2
  · have hpa' : jobsB l = false := by simpa using hpa
    have HF := Lib.hid (show firedR l id x = ([], false) by unfold firedR; rw [if_neg hpa])
    rw [hpa'] at c1
    go_enter Tryz.func34, Tryz.ntmps34
    go_wp2_with fail
    refine c1.mono ?_
    rintro e w1 ⟨rfl, b1⟩
    go_wp2
    refine bodyPost_ret (v := .tuple #[.slice (some ⟨w1.heap.size, 0, none⟩) 0 0, .bool false]) (by simp [results, Tryz.results34, go_sem, *]) rfl ?_
    exact retJobs HF.out rfl (row0p (Blk.new w1 _ _) b1.size) (b1.alloc b1.size _)
theorem firedRS_any (A : Option Addr) (n cap : Nat) (l : List Jb) (id x : Int) (w : World) (hS : Sl w 5 A n (JB l)) (hl : l.length = n) (hn : n ≤ maxLen) (hA : A = none → n = 0 ∧ cap = 0) :
    Calls Tryz.prog 34 #[.slice A n cap, .int .i64 id, .int .i64 x] w (RetRowB w 71 5 (firedR l id x).1.length (JB (firedR l id x).1) (firedR l id x).2) := specJobFired_walk A n cap l id x w hS hl hn hA
theorem firedRI_any (A : Option Addr) (n cap : Nat) (l : List Jb) (id x : Int) (w : World) (hS : Sl w 5 A n (JB l)) (hl : l.length = n) (hn : n ≤ maxLen) (hA : A = none → n = 0 ∧ cap = 0) :
    Calls Tryz.prog 106 #[.slice A n cap, .int .i64 id, .int .i64 x] w (RetRowB w 71 5 (firedR l id x).1.length (JB (firedR l id x).1) (firedR l id x).2) := jobFired_walk A n cap l id x w hS hl hn hA
end Go.Proofs.YtokklkmibjpjnaaGreat
namespace Go.Proofs.YtokklkmibjpjnaaGreat
set_option linter.unusedSimpArgs false
set_option linter.unusedVariables false
attribute [local go_sem] n_lt2 n_lt3 n_lt4 n_le2 n_le3
open Go.RowKit
attribute [local go_sem] Ext.cell Ext.frozen
/-- What an effect hands back: a state (told where the effect took place) and whether it did. -/
def RetEff (w : World) (lo : Nat) (i0 t0 : Int) (pl : List Pr) (ql : List Jb) (h e u : Int) (ok : Bool) (en : Ending) (w' : World) : Prop :=
  ∃ (A : Option Addr) (n c : Nat) (B : Option Addr) (m d : Nat) (h' e' u' : Int), en = .returned (.tuple #[.agg #[.int .i64 i0, .int .i64 t0, .slice A n c, .slice B m d, .int .i64 h', .int .i64 e', .int .i64 u'], .bool ok]) ∧ Below w.heap.size w w' ∧
    (ok = true → h' = h ∧ e' = e ∧ u' = u ∧ Sl w' 2 A n (PR pl) ∧ pl.length = n ∧ (A = none → n = 0 ∧ c = 0) ∧ Sl w' 5 B m (JB ql) ∧ ql.length = m ∧ (B = none → m = 0 ∧ d = 0) ∧ (0 < n → ∀ a, A = some a → a.block < lo ∨ w.heap.size ≤ a.block) ∧ (0 < m → ∀ a, B = some a → a.block < lo ∨ w.heap.size ≤ a.block))
theorem RetEff.of {w w' : World} {lo : Nat} {i0 t0 : Int} {pl pl2 : List Pr} {ql ql2 : List Jb} {h e u : Int} {ok : Bool} {A : Option Addr} {n c : Nat} {B : Option Addr} {m d : Nat} (b : Below w.heap.size w w') (hp : pl2 = pl) (hq : ql2 = ql) (h1 : Sl w' 2 A n (PR pl)) (h2 : pl.length = n) (h3 : A = none → n = 0 ∧ c = 0) (h4 : Sl w' 5 B m (JB ql)) (h5 : ql.length = m) (h6 : B = none → m = 0 ∧ d = 0) (h7 : 0 < n → ∀ a, A = some a → a.block < lo ∨ w.heap.size ≤ a.block) (h8 : 0 < m → ∀ a, B = some a → a.block < lo ∨ w.heap.size ≤ a.block) :
    RetEff w lo i0 t0 pl2 ql2 h e u ok (.returned (.tuple #[.agg #[.int .i64 i0, .int .i64 t0, .slice A n c, .slice B m d, .int .i64 h, .int .i64 e, .int .i64 u], .bool ok])) w' := by
  subst hp hq
  exact ⟨A, n, c, B, m, d, h, e, u, rfl, b, fun _ => ⟨rfl, rfl, rfl, h1, h2, h3, h4, h5, h6, h7, h8⟩⟩
theorem RetEff.no {w w' : World} {lo : Nat} {i0 t0 : Int} {pl2 : List Pr} {ql2 : List Jb} {h2 e2 u2 h e u : Int} {A : Option Addr} {n c : Nat} {B : Option Addr} {m d : Nat} (b : Below w.heap.size w w') :
    RetEff w lo i0 t0 pl2 ql2 h2 e2 u2 false (.returned (.tuple #[.agg #[.int .i64 i0, .int .i64 t0, .slice A n c, .slice B m d, .int .i64 h, .int .i64 e, .int .i64 u], .bool false])) w' :=
  ⟨A, n, c, B, m, d, h, e, u, rfl, b, fun hh => absurd hh (by decide)⟩
set_option maxRecDepth 100000 in
set_option maxHeartbeats 4000000 in
theorem eff1_g (A : Option Addr) (n c : Nat) (B : Option Addr) (m d : Nat) (i0 t0 l0 l1 l2 : Int) (pl : List Pr) (ql : List Jb) (ex et ec es ek ea eb eg eh : Int) (w : World) (hP : Sl w 2 A n (PR pl)) (hQ : Sl w 5 B m (JB ql)) (hl : pl.length = n) (hr : ql.length = m) (hn : n ≤ maxLen) (hm : m ≤ maxLen) (hA : A = none → n = 0 ∧ c = 0) (hB : B = none → m = 0 ∧ d = 0) (lo : Nat) (hPl : 0 < n → LtB A lo) (hQl : 0 < m → LtB B lo) (p2 : List Pr) (k2 : Nat) (ok : Bool) (hp2 : Hid (putR pl ea eb = (p2, ok))) (hk2 : Hid (p2.length = k2)) :
    Calls Tryz.prog 97 #[.agg #[.int .i64 i0, .int .i64 t0, .slice A n c, .slice B m d, .int .i64 l0, .int .i64 l1, .int .i64 l2], .agg #[.int .i64 ex, .int .i64 et, .int .i64 ec, .int .i64 es, .int .i64 ek, .int .i64 ea, .int .i64 eb, .int .i64 eg, .int .i64 eh]] w (RetEff w lo i0 t0 p2 ql l0 l1 l2 ok) := by
  have HP := Lib.hid hP
  have HQ := Lib.hid hQ
  have HA := Lib.hid hA
  have HB := Lib.hid hB
  have hL := Lib.hid hl
  have hR := Lib.hid hr
  clear hP hQ hA hB hl hr
  go_enter Tryz.func97, Tryz.ntmps97
  go_wp2_with fail
  refine calls_named ?_
  rintro v0 hv0
  have f0 : Below w.heap.size w v0 := by rw [hv0]; (repeat' (first | (with_reducible exact Below.refl _ _) | (with_reducible assumption) | (with_reducible refine Below.alloc ?_ ?_ _) | (with_reducible refine Below.drew ?_) | (with_reducible refine Below.setCell ?_ ?_ _) | (with_reducible refine bstep (by assumption) ?_ ?_) | (with_reducible exact Nat.le_refl _) | omega | (simp [*]; done) | (simp [*]; omega)))
  have z0 : w.heap.size + 3 ≤ v0.heap.size := by rw [hv0]; simp [size_set]
  have HP_0 := Lib.hid (HP.out.below f0)
  have HP_lt := Lib.hid (fun hn => HP.out.lt hn)
  have HQ_0 := Lib.hid (HQ.out.below f0)
  have HQ_lt := Lib.hid (fun hn => HQ.out.lt hn)
  have Ha_0 : Hid (Blk v0 w.heap.size 37 #[.int .i64 i0, .int .i64 t0, .slice A n c, .slice B m d, .int .i64 l0, .int .i64 l1, .int .i64 l2]) := by rw [hv0]; exact ((Blk.new_at _ _ _ _ (by simp)).alloc _).alloc _
  have Hb_0 : Hid (Blk v0 (w.heap.size + 1) 43 #[.int .i64 ex, .int .i64 et, .int .i64 ec, .int .i64 es, .int .i64 ek, .int .i64 ea, .int .i64 eb, .int .i64 eg, .int .i64 eh]) := by rw [hv0]; exact (Blk.new_at _ _ _ _ (by simp)).alloc _
  have Hr_0 : Hid (Blk v0 (w.heap.size + 1 + 1) 37 #[.int .i64 0, .int .i64 0, .slice none 0 0, .slice none 0 0, .int .i64 0, .int .i64 0, .int .i64 0]) := by rw [hv0]; exact Blk.new_at _ _ _ _ (by simp)
  clear hv0
  generalize hg2 : w.heap.size + 1 + 1 = g2 at *
  generalize hg1 : w.heap.size + 1 = g1 at *
  have lg1 : w.heap.size < g1 := by omega
  have lg2 : g1 < g2 := by omega
  have lgz : g2 < v0.heap.size := by omega
  have nq1x0 : ¬ g1 = w.heap.size := by omega
  have nq0x1 : ¬ w.heap.size = g1 := by omega
  have nq2x0 : ¬ g2 = w.heap.size := by omega
  have nq0x2 : ¬ w.heap.size = g2 := by omega
  have nq2x1 : ¬ g2 = g1 := by omega
  have nq1x2 : ¬ g1 = g2 := by omega
  clear hg1 hg2
  have lt_a := Ha_0.out.lt
  obtain ⟨r_a0, r_a1, r_a2, r_a3, r_a4, r_a5, r_a6⟩ := bc7 Ha_0.out
  obtain ⟨z_a0, z_a1, z_a2, z_a3, z_a4, z_a5, z_a6⟩ := bf7 Ha_0.out
  have lt_b := Hb_0.out.lt
  obtain ⟨r_b0, r_b1, r_b2, r_b3, r_b4, r_b5, r_b6, r_b7, r_b8⟩ := bc9 Hb_0.out
  have lt_r := Hr_0.out.lt
  obtain ⟨r_r0, r_r1, r_r2, r_r3, r_r4, r_r5, r_r6⟩ := bc7 Hr_0.out
  obtain ⟨z_r0, z_r1, z_r2, z_r3, z_r4, z_r5, z_r6⟩ := bf7 Hr_0.out
  have cc := putRI_any A n c pl ea eb v0 HP_0.out hL.out hn HA.out
  rw [hp2.out] at cc
  replace cc := cc.mono (fun _ _ h => Lib.hid h)
  have HX : ∀ e w1, RetRowB v0 106 2 (p2, ok).1.length (PR (p2, ok).1) (p2, ok).2 e w1 → RetRowB v0 106 2 k2 (PR p2) ok e w1 := fun e w1 h => by
    have := hk2.out
    subst this
    exact h
  go_wp2_with fail
  refine cc.mono ?_
  rintro e v1 hx
  obtain ⟨A1, c1, rfl, Rx, b1⟩ := HX _ _ hx.out
  clear HX hx
  have f1 := bthen f0 b1
  have z1 := b1.size
  have HP_1 := Lib.hid (HP_0.out.below b1)
  have HQ_1 := Lib.hid (HQ_0.out.below b1)
  have Ha_1 := Lib.hid (Ha_0.out.below b1)
  have Hb_1 := Lib.hid (Hb_0.out.below b1)
  have Hr_1 := Lib.hid (Hr_0.out.below b1)
  clear lt_a r_a0 r_a1 r_a2 r_a3 r_a4 r_a5 r_a6 z_a0 z_a1 z_a2 z_a3 z_a4 z_a5 z_a6 lt_b r_b0 r_b1 r_b2 r_b3 r_b4 r_b5 r_b6 r_b7 r_b8 lt_r r_r0 r_r1 r_r2 r_r3 r_r4 r_r5 r_r6 z_r0 z_r1 z_r2 z_r3 z_r4 z_r5 z_r6
  clear HP_0 HQ_0 Ha_0 Hb_0 Hr_0
  have Hx_1 := Lib.hid Rx
  clear Rx
  clear cc
  have lt_a := Ha_1.out.lt
  obtain ⟨r_a0, r_a1, r_a2, r_a3, r_a4, r_a5, r_a6⟩ := bc7 Ha_1.out
  obtain ⟨z_a0, z_a1, z_a2, z_a3, z_a4, z_a5, z_a6⟩ := bf7 Ha_1.out
  have lt_b := Hb_1.out.lt
  obtain ⟨r_b0, r_b1, r_b2, r_b3, r_b4, r_b5, r_b6, r_b7, r_b8⟩ := bc9 Hb_1.out
  have lt_r := Hr_1.out.lt
  obtain ⟨r_r0, r_r1, r_r2, r_r3, r_r4, r_r5, r_r6⟩ := bc7 Hr_1.out
  obtain ⟨z_r0, z_r1, z_r2, z_r3, z_r4, z_r5, z_r6⟩ := bf7 Hr_1.out
  go_wp21
  refine bodyPost_ret (v := .tuple #[.agg #[.int .i64 i0, .int .i64 t0, .slice A1 k2 c1, .slice B m d, .int .i64 l0, .int .i64 l1, .int .i64 l2], .bool ok]) (by simp [results, Tryz.results97, go_sem, *]) rfl ?_
  exact RetEff.of (by (repeat' (first | (with_reducible exact Below.refl _ _) | (with_reducible assumption) | (with_reducible refine Below.alloc ?_ ?_ _) | (with_reducible refine Below.drew ?_) | (with_reducible refine Below.setCell ?_ ?_ _) | (with_reducible refine bstep (by assumption) ?_ ?_) | (with_reducible exact Nat.le_refl _) | omega | (simp [*]; done) | (simp [*]; omega)))) rfl rfl (((((((((Hx_1.out).far (p := ⟨w.heap.size, 2, none⟩) (fun a ha => by have := (Hx_1.out).ge a ha; show a.block ≠ w.heap.size; omega) _).far (p := ⟨g2, 0, none⟩) (fun a ha => by have := (Hx_1.out).ge a ha; show a.block ≠ g2; omega) _).far (p := ⟨g2, 1, none⟩) (fun a ha => by have := (Hx_1.out).ge a ha; show a.block ≠ g2; omega) _).far (p := ⟨g2, 2, none⟩) (fun a ha => by have := (Hx_1.out).ge a ha; show a.block ≠ g2; omega) _).far (p := ⟨g2, 3, none⟩) (fun a ha => by have := (Hx_1.out).ge a ha; show a.block ≠ g2; omega) _).far (p := ⟨g2, 4, none⟩) (fun a ha => by have := (Hx_1.out).ge a ha; show a.block ≠ g2; omega) _).far (p := ⟨g2, 5, none⟩) (fun a ha => by have := (Hx_1.out).ge a ha; show a.block ≠ g2; omega) _).far (p := ⟨g2, 6, none⟩) (fun a ha => by have := (Hx_1.out).ge a ha; show a.block ≠ g2; omega) _).sl hk2.out (row_nil Hx_1.out) (((((((((HQ_1.out).far (p := ⟨w.heap.size, 2, none⟩) (fun hn a ha => by have := HQ_lt.out hn a ha; show a.block ≠ w.heap.size; omega) _).far (p := ⟨g2, 0, none⟩) (fun hn a ha => by have := HQ_lt.out hn a ha; show a.block ≠ g2; omega) _).far (p := ⟨g2, 1, none⟩) (fun hn a ha => by have := HQ_lt.out hn a ha; show a.block ≠ g2; omega) _).far (p := ⟨g2, 2, none⟩) (fun hn a ha => by have := HQ_lt.out hn a ha; show a.block ≠ g2; omega) _).far (p := ⟨g2, 3, none⟩) (fun hn a ha => by have := HQ_lt.out hn a ha; show a.block ≠ g2; omega) _).far (p := ⟨g2, 4, none⟩) (fun hn a ha => by have := HQ_lt.out hn a ha; show a.block ≠ g2; omega) _).far (p := ⟨g2, 5, none⟩) (fun hn a ha => by have := HQ_lt.out hn a ha; show a.block ≠ g2; omega) _).far (p := ⟨g2, 6, none⟩) (fun hn a ha => by have := HQ_lt.out hn a ha; show a.block ≠ g2; omega) _) hR.out HB.out (fun _ a ha => .inr (by have := (Hx_1.out).ge a ha; omega)) (fun h0 a ha => .inl (hQl h0 a ha))
theorem eff1_any (A : Option Addr) (n c : Nat) (B : Option Addr) (m d : Nat) (i0 t0 l0 l1 l2 : Int) (pl : List Pr) (ql : List Jb) (ex et ec es ek ea eb eg eh : Int) (w : World) (hP : Sl w 2 A n (PR pl)) (hQ : Sl w 5 B m (JB ql)) (hl : pl.length = n) (hr : ql.length = m) (hn : n ≤ maxLen) (hm : m ≤ maxLen) (hA : A = none → n = 0 ∧ c = 0) (hB : B = none → m = 0 ∧ d = 0) (lo : Nat) (hPl : 0 < n → LtB A lo) (hQl : 0 < m → LtB B lo) :
    Calls Tryz.prog 97 #[.agg #[.int .i64 i0, .int .i64 t0, .slice A n c, .slice B m d, .int .i64 l0, .int .i64 l1, .int .i64 l2], .agg #[.int .i64 ex, .int .i64 et, .int .i64 ec, .int .i64 es, .int .i64 ek, .int .i64 ea, .int .i64 eb, .int .i64 eg, .int .i64 eh]] w (RetEff w lo i0 t0 (putR pl ea eb).1 ql l0 l1 l2 (putR pl ea eb).2) :=
  eff1_g A n c B m d i0 t0 l0 l1 l2 pl ql ex et ec es ek ea eb eg eh w hP hQ hl hr hn hm hA hB lo hPl hQl _ _ _ (Lib.hid rfl) (Lib.hid rfl)
set_option maxRecDepth 100000 in
set_option maxHeartbeats 4000000 in
theorem eff2_g (A : Option Addr) (n c : Nat) (B : Option Addr) (m d : Nat) (i0 t0 l0 l1 l2 : Int) (pl : List Pr) (ql : List Jb) (ex et ec es ek ea eb eg eh : Int) (w : World) (hP : Sl w 2 A n (PR pl)) (hQ : Sl w 5 B m (JB ql)) (hl : pl.length = n) (hr : ql.length = m) (hn : n ≤ maxLen) (hm : m ≤ maxLen) (hA : A = none → n = 0 ∧ c = 0) (hB : B = none → m = 0 ∧ d = 0) (lo : Nat) (hPl : 0 < n → LtB A lo) (hQl : 0 < m → LtB B lo) (p2 : List Pr) (k2 : Nat) (ok : Bool) (hp2 : Hid (cutR pl ea = (p2, ok))) (hk2 : Hid (p2.length = k2)) :
    Calls Tryz.prog 99 #[.agg #[.int .i64 i0, .int .i64 t0, .slice A n c, .slice B m d, .int .i64 l0, .int .i64 l1, .int .i64 l2], .agg #[.int .i64 ex, .int .i64 et, .int .i64 ec, .int .i64 es, .int .i64 ek, .int .i64 ea, .int .i64 eb, .int .i64 eg, .int .i64 eh]] w (RetEff w lo i0 t0 p2 ql l0 l1 l2 ok) := by
  have HP := Lib.hid hP
  have HQ := Lib.hid hQ
  have HA := Lib.hid hA
  have HB := Lib.hid hB
  have hL := Lib.hid hl
  have hR := Lib.hid hr
  clear hP hQ hA hB hl hr
  go_enter Tryz.func99, Tryz.ntmps99
  go_wp2_with fail
  refine calls_named ?_
  rintro v0 hv0
  have f0 : Below w.heap.size w v0 := by rw [hv0]; (repeat' (first | (with_reducible exact Below.refl _ _) | (with_reducible assumption) | (with_reducible refine Below.alloc ?_ ?_ _) | (with_reducible refine Below.drew ?_) | (with_reducible refine Below.setCell ?_ ?_ _) | (with_reducible refine bstep (by assumption) ?_ ?_) | (with_reducible exact Nat.le_refl _) | omega | (simp [*]; done) | (simp [*]; omega)))
  have z0 : w.heap.size + 3 ≤ v0.heap.size := by rw [hv0]; simp [size_set]
  have HP_0 := Lib.hid (HP.out.below f0)
  have HP_lt := Lib.hid (fun hn => HP.out.lt hn)
  have HQ_0 := Lib.hid (HQ.out.below f0)
  have HQ_lt := Lib.hid (fun hn => HQ.out.lt hn)
  have Ha_0 : Hid (Blk v0 w.heap.size 37 #[.int .i64 i0, .int .i64 t0, .slice A n c, .slice B m d, .int .i64 l0, .int .i64 l1, .int .i64 l2]) := by rw [hv0]; exact ((Blk.new_at _ _ _ _ (by simp)).alloc _).alloc _
  have Hb_0 : Hid (Blk v0 (w.heap.size + 1) 43 #[.int .i64 ex, .int .i64 et, .int .i64 ec, .int .i64 es, .int .i64 ek, .int .i64 ea, .int .i64 eb, .int .i64 eg, .int .i64 eh]) := by rw [hv0]; exact (Blk.new_at _ _ _ _ (by simp)).alloc _
  have Hr_0 : Hid (Blk v0 (w.heap.size + 1 + 1) 37 #[.int .i64 0, .int .i64 0, .slice none 0 0, .slice none 0 0, .int .i64 0, .int .i64 0, .int .i64 0]) := by rw [hv0]; exact Blk.new_at _ _ _ _ (by simp)
  clear hv0
  generalize hg2 : w.heap.size + 1 + 1 = g2 at *
  generalize hg1 : w.heap.size + 1 = g1 at *
  have lg1 : w.heap.size < g1 := by omega
  have lg2 : g1 < g2 := by omega
  have lgz : g2 < v0.heap.size := by omega
  have nq1x0 : ¬ g1 = w.heap.size := by omega
  have nq0x1 : ¬ w.heap.size = g1 := by omega
  have nq2x0 : ¬ g2 = w.heap.size := by omega
  have nq0x2 : ¬ w.heap.size = g2 := by omega
  have nq2x1 : ¬ g2 = g1 := by omega
  have nq1x2 : ¬ g1 = g2 := by omega
  clear hg1 hg2
  have lt_a := Ha_0.out.lt
  obtain ⟨r_a0, r_a1, r_a2, r_a3, r_a4, r_a5, r_a6⟩ := bc7 Ha_0.out
  obtain ⟨z_a0, z_a1, z_a2, z_a3, z_a4, z_a5, z_a6⟩ := bf7 Ha_0.out
  have lt_b := Hb_0.out.lt
  obtain ⟨r_b0, r_b1, r_b2, r_b3, r_b4, r_b5, r_b6, r_b7, r_b8⟩ := bc9 Hb_0.out
  have lt_r := Hr_0.out.lt
  obtain ⟨r_r0, r_r1, r_r2, r_r3, r_r4, r_r5, r_r6⟩ := bc7 Hr_0.out
  obtain ⟨z_r0, z_r1, z_r2, z_r3, z_r4, z_r5, z_r6⟩ := bf7 Hr_0.out
  have cc := cutOutR_any A n c pl ea v0 HP_0.out hL.out hn HA.out
  rw [hp2.out] at cc
  replace cc := cc.mono (fun _ _ h => Lib.hid h)
  have HX : ∀ e w1, RetRowB v0 106 2 (p2, ok).1.length (PR (p2, ok).1) (p2, ok).2 e w1 → RetRowB v0 106 2 k2 (PR p2) ok e w1 := fun e w1 h => by
    have := hk2.out
    subst this
    exact h
  go_wp2_with fail
  refine cc.mono ?_
  rintro e v1 hx
  obtain ⟨A1, c1, rfl, Rx, b1⟩ := HX _ _ hx.out
  clear HX hx
  have f1 := bthen f0 b1
  have z1 := b1.size
  have HP_1 := Lib.hid (HP_0.out.below b1)
  have HQ_1 := Lib.hid (HQ_0.out.below b1)
  have Ha_1 := Lib.hid (Ha_0.out.below b1)
  have Hb_1 := Lib.hid (Hb_0.out.below b1)
  have Hr_1 := Lib.hid (Hr_0.out.below b1)
  clear lt_a r_a0 r_a1 r_a2 r_a3 r_a4 r_a5 r_a6 z_a0 z_a1 z_a2 z_a3 z_a4 z_a5 z_a6 lt_b r_b0 r_b1 r_b2 r_b3 r_b4 r_b5 r_b6 r_b7 r_b8 lt_r r_r0 r_r1 r_r2 r_r3 r_r4 r_r5 r_r6 z_r0 z_r1 z_r2 z_r3 z_r4 z_r5 z_r6
  clear HP_0 HQ_0 Ha_0 Hb_0 Hr_0
  have Hx_1 := Lib.hid Rx
  clear Rx
  clear cc
  have lt_a := Ha_1.out.lt
  obtain ⟨r_a0, r_a1, r_a2, r_a3, r_a4, r_a5, r_a6⟩ := bc7 Ha_1.out
  obtain ⟨z_a0, z_a1, z_a2, z_a3, z_a4, z_a5, z_a6⟩ := bf7 Ha_1.out
  have lt_b := Hb_1.out.lt
  obtain ⟨r_b0, r_b1, r_b2, r_b3, r_b4, r_b5, r_b6, r_b7, r_b8⟩ := bc9 Hb_1.out
  have lt_r := Hr_1.out.lt
  obtain ⟨r_r0, r_r1, r_r2, r_r3, r_r4, r_r5, r_r6⟩ := bc7 Hr_1.out
  obtain ⟨z_r0, z_r1, z_r2, z_r3, z_r4, z_r5, z_r6⟩ := bf7 Hr_1.out
  go_wp21
  refine bodyPost_ret (v := .tuple #[.agg #[.int .i64 i0, .int .i64 t0, .slice A1 k2 c1, .slice B m d, .int .i64 l0, .int .i64 l1, .int .i64 l2], .bool ok]) (by simp [results, Tryz.results99, go_sem, *]) rfl ?_
  exact RetEff.of (by (repeat' (first | (with_reducible exact Below.refl _ _) | (with_reducible assumption) | (with_reducible refine Below.alloc ?_ ?_ _) | (with_reducible refine Below.drew ?_) | (with_reducible refine Below.setCell ?_ ?_ _) | (with_reducible refine bstep (by assumption) ?_ ?_) | (with_reducible exact Nat.le_refl _) | omega | (simp [*]; done) | (simp [*]; omega)))) rfl rfl (((((((((Hx_1.out).far (p := ⟨w.heap.size, 2, none⟩) (fun a ha => by have := (Hx_1.out).ge a ha; show a.block ≠ w.heap.size; omega) _).far (p := ⟨g2, 0, none⟩) (fun a ha => by have := (Hx_1.out).ge a ha; show a.block ≠ g2; omega) _).far (p := ⟨g2, 1, none⟩) (fun a ha => by have := (Hx_1.out).ge a ha; show a.block ≠ g2; omega) _).far (p := ⟨g2, 2, none⟩) (fun a ha => by have := (Hx_1.out).ge a ha; show a.block ≠ g2; omega) _).far (p := ⟨g2, 3, none⟩) (fun a ha => by have := (Hx_1.out).ge a ha; show a.block ≠ g2; omega) _).far (p := ⟨g2, 4, none⟩) (fun a ha => by have := (Hx_1.out).ge a ha; show a.block ≠ g2; omega) _).far (p := ⟨g2, 5, none⟩) (fun a ha => by have := (Hx_1.out).ge a ha; show a.block ≠ g2; omega) _).far (p := ⟨g2, 6, none⟩) (fun a ha => by have := (Hx_1.out).ge a ha; show a.block ≠ g2; omega) _).sl hk2.out (row_nil Hx_1.out) (((((((((HQ_1.out).far (p := ⟨w.heap.size, 2, none⟩) (fun hn a ha => by have := HQ_lt.out hn a ha; show a.block ≠ w.heap.size; omega) _).far (p := ⟨g2, 0, none⟩) (fun hn a ha => by have := HQ_lt.out hn a ha; show a.block ≠ g2; omega) _).far (p := ⟨g2, 1, none⟩) (fun hn a ha => by have := HQ_lt.out hn a ha; show a.block ≠ g2; omega) _).far (p := ⟨g2, 2, none⟩) (fun hn a ha => by have := HQ_lt.out hn a ha; show a.block ≠ g2; omega) _).far (p := ⟨g2, 3, none⟩) (fun hn a ha => by have := HQ_lt.out hn a ha; show a.block ≠ g2; omega) _).far (p := ⟨g2, 4, none⟩) (fun hn a ha => by have := HQ_lt.out hn a ha; show a.block ≠ g2; omega) _).far (p := ⟨g2, 5, none⟩) (fun hn a ha => by have := HQ_lt.out hn a ha; show a.block ≠ g2; omega) _).far (p := ⟨g2, 6, none⟩) (fun hn a ha => by have := HQ_lt.out hn a ha; show a.block ≠ g2; omega) _) hR.out HB.out (fun _ a ha => .inr (by have := (Hx_1.out).ge a ha; omega)) (fun h0 a ha => .inl (hQl h0 a ha))
theorem eff2_any (A : Option Addr) (n c : Nat) (B : Option Addr) (m d : Nat) (i0 t0 l0 l1 l2 : Int) (pl : List Pr) (ql : List Jb) (ex et ec es ek ea eb eg eh : Int) (w : World) (hP : Sl w 2 A n (PR pl)) (hQ : Sl w 5 B m (JB ql)) (hl : pl.length = n) (hr : ql.length = m) (hn : n ≤ maxLen) (hm : m ≤ maxLen) (hA : A = none → n = 0 ∧ c = 0) (hB : B = none → m = 0 ∧ d = 0) (lo : Nat) (hPl : 0 < n → LtB A lo) (hQl : 0 < m → LtB B lo) :
    Calls Tryz.prog 99 #[.agg #[.int .i64 i0, .int .i64 t0, .slice A n c, .slice B m d, .int .i64 l0, .int .i64 l1, .int .i64 l2], .agg #[.int .i64 ex, .int .i64 et, .int .i64 ec, .int .i64 es, .int .i64 ek, .int .i64 ea, .int .i64 eb, .int .i64 eg, .int .i64 eh]] w (RetEff w lo i0 t0 (cutR pl ea).1 ql l0 l1 l2 (cutR pl ea).2) :=
  eff2_g A n c B m d i0 t0 l0 l1 l2 pl ql ex et ec es ek ea eb eg eh w hP hQ hl hr hn hm hA hB lo hPl hQl _ _ _ (Lib.hid rfl) (Lib.hid rfl)
set_option maxRecDepth 100000 in
set_option maxHeartbeats 4000000 in
theorem eff3_g (A : Option Addr) (n c : Nat) (B : Option Addr) (m d : Nat) (i0 t0 l0 l1 l2 : Int) (pl : List Pr) (ql : List Jb) (ex et ec es ek ea eb eg eh : Int) (w : World) (hP : Sl w 2 A n (PR pl)) (hQ : Sl w 5 B m (JB ql)) (hl : pl.length = n) (hr : ql.length = m) (hn : n ≤ maxLen) (hm : m ≤ maxLen) (hA : A = none → n = 0 ∧ c = 0) (hB : B = none → m = 0 ∧ d = 0) (lo : Nat) (hPl : 0 < n → LtB A lo) (hQl : 0 < m → LtB B lo) (q2 : List Jb) (k2 : Nat) (ok : Bool) (hq2 : Hid (addR ql ⟨ea, eb, eg, eh, 0⟩ = (q2, ok))) (hk2 : Hid (q2.length = k2)) :
    Calls Tryz.prog 101 #[.agg #[.int .i64 i0, .int .i64 t0, .slice A n c, .slice B m d, .int .i64 l0, .int .i64 l1, .int .i64 l2], .agg #[.int .i64 ex, .int .i64 et, .int .i64 ec, .int .i64 es, .int .i64 ek, .int .i64 ea, .int .i64 eb, .int .i64 eg, .int .i64 eh]] w (RetEff w lo i0 t0 pl q2 l0 l1 l2 ok) := by
  have HP := Lib.hid hP
  have HQ := Lib.hid hQ
  have HA := Lib.hid hA
  have HB := Lib.hid hB
  have hL := Lib.hid hl
  have hR := Lib.hid hr
  clear hP hQ hA hB hl hr
  go_enter Tryz.func101, Tryz.ntmps101
  go_wp2_with fail
  refine calls_named ?_
  rintro v0 hv0
  have f0 : Below w.heap.size w v0 := by rw [hv0]; (repeat' (first | (with_reducible exact Below.refl _ _) | (with_reducible assumption) | (with_reducible refine Below.alloc ?_ ?_ _) | (with_reducible refine Below.drew ?_) | (with_reducible refine Below.setCell ?_ ?_ _) | (with_reducible refine bstep (by assumption) ?_ ?_) | (with_reducible exact Nat.le_refl _) | omega | (simp [*]; done) | (simp [*]; omega)))
  have z0 : w.heap.size + 3 ≤ v0.heap.size := by rw [hv0]; simp [size_set]
  have HP_0 := Lib.hid (HP.out.below f0)
  have HP_lt := Lib.hid (fun hn => HP.out.lt hn)
  have HQ_0 := Lib.hid (HQ.out.below f0)
  have HQ_lt := Lib.hid (fun hn => HQ.out.lt hn)
  have Ha_0 : Hid (Blk v0 w.heap.size 37 #[.int .i64 i0, .int .i64 t0, .slice A n c, .slice B m d, .int .i64 l0, .int .i64 l1, .int .i64 l2]) := by rw [hv0]; exact ((Blk.new_at _ _ _ _ (by simp)).alloc _).alloc _
  have Hb_0 : Hid (Blk v0 (w.heap.size + 1) 43 #[.int .i64 ex, .int .i64 et, .int .i64 ec, .int .i64 es, .int .i64 ek, .int .i64 ea, .int .i64 eb, .int .i64 eg, .int .i64 eh]) := by rw [hv0]; exact (Blk.new_at _ _ _ _ (by simp)).alloc _
  have Hr_0 : Hid (Blk v0 (w.heap.size + 1 + 1) 37 #[.int .i64 0, .int .i64 0, .slice none 0 0, .slice none 0 0, .int .i64 0, .int .i64 0, .int .i64 0]) := by rw [hv0]; exact Blk.new_at _ _ _ _ (by simp)
  clear hv0
  generalize hg2 : w.heap.size + 1 + 1 = g2 at *
  generalize hg1 : w.heap.size + 1 = g1 at *
  have lg1 : w.heap.size < g1 := by omega
  have lg2 : g1 < g2 := by omega
  have lgz : g2 < v0.heap.size := by omega
  have nq1x0 : ¬ g1 = w.heap.size := by omega
  have nq0x1 : ¬ w.heap.size = g1 := by omega
  have nq2x0 : ¬ g2 = w.heap.size := by omega
  have nq0x2 : ¬ w.heap.size = g2 := by omega
  have nq2x1 : ¬ g2 = g1 := by omega
  have nq1x2 : ¬ g1 = g2 := by omega
  clear hg1 hg2
  have lt_a := Ha_0.out.lt
  obtain ⟨r_a0, r_a1, r_a2, r_a3, r_a4, r_a5, r_a6⟩ := bc7 Ha_0.out
  obtain ⟨z_a0, z_a1, z_a2, z_a3, z_a4, z_a5, z_a6⟩ := bf7 Ha_0.out
  have lt_b := Hb_0.out.lt
  obtain ⟨r_b0, r_b1, r_b2, r_b3, r_b4, r_b5, r_b6, r_b7, r_b8⟩ := bc9 Hb_0.out
  have lt_r := Hr_0.out.lt
  obtain ⟨r_r0, r_r1, r_r2, r_r3, r_r4, r_r5, r_r6⟩ := bc7 Hr_0.out
  obtain ⟨z_r0, z_r1, z_r2, z_r3, z_r4, z_r5, z_r6⟩ := bf7 Hr_0.out
  have cc := addedRI_any B m d ql ea eb eg eh 0 v0 HQ_0.out hR.out hm HB.out
  rw [hq2.out] at cc
  replace cc := cc.mono (fun _ _ h => Lib.hid h)
  have HX : ∀ e w1, RetRowB v0 71 5 (q2, ok).1.length (JB (q2, ok).1) (q2, ok).2 e w1 → RetRowB v0 71 5 k2 (JB q2) ok e w1 := fun e w1 h => by
    have := hk2.out
    subst this
    exact h
  go_wp2_with fail
  refine cc.mono ?_
  rintro e v1 hx
  obtain ⟨B1, d1, rfl, Ry, b1⟩ := HX _ _ hx.out
  clear HX hx
  have f1 := bthen f0 b1
  have z1 := b1.size
  have HP_1 := Lib.hid (HP_0.out.below b1)
  have HQ_1 := Lib.hid (HQ_0.out.below b1)
  have Ha_1 := Lib.hid (Ha_0.out.below b1)
  have Hb_1 := Lib.hid (Hb_0.out.below b1)
  have Hr_1 := Lib.hid (Hr_0.out.below b1)
  clear lt_a r_a0 r_a1 r_a2 r_a3 r_a4 r_a5 r_a6 z_a0 z_a1 z_a2 z_a3 z_a4 z_a5 z_a6 lt_b r_b0 r_b1 r_b2 r_b3 r_b4 r_b5 r_b6 r_b7 r_b8 lt_r r_r0 r_r1 r_r2 r_r3 r_r4 r_r5 r_r6 z_r0 z_r1 z_r2 z_r3 z_r4 z_r5 z_r6
  clear HP_0 HQ_0 Ha_0 Hb_0 Hr_0
  have Hy_1 := Lib.hid Ry
  clear Ry
  clear cc
  have lt_a := Ha_1.out.lt
  obtain ⟨r_a0, r_a1, r_a2, r_a3, r_a4, r_a5, r_a6⟩ := bc7 Ha_1.out
  obtain ⟨z_a0, z_a1, z_a2, z_a3, z_a4, z_a5, z_a6⟩ := bf7 Ha_1.out
  have lt_b := Hb_1.out.lt
  obtain ⟨r_b0, r_b1, r_b2, r_b3, r_b4, r_b5, r_b6, r_b7, r_b8⟩ := bc9 Hb_1.out
  have lt_r := Hr_1.out.lt
  obtain ⟨r_r0, r_r1, r_r2, r_r3, r_r4, r_r5, r_r6⟩ := bc7 Hr_1.out
  obtain ⟨z_r0, z_r1, z_r2, z_r3, z_r4, z_r5, z_r6⟩ := bf7 Hr_1.out
  go_wp21
  refine bodyPost_ret (v := .tuple #[.agg #[.int .i64 i0, .int .i64 t0, .slice A n c, .slice B1 k2 d1, .int .i64 l0, .int .i64 l1, .int .i64 l2], .bool ok]) (by simp [results, Tryz.results101, go_sem, *]) rfl ?_
  exact RetEff.of (by (repeat' (first | (with_reducible exact Below.refl _ _) | (with_reducible assumption) | (with_reducible refine Below.alloc ?_ ?_ _) | (with_reducible refine Below.drew ?_) | (with_reducible refine Below.setCell ?_ ?_ _) | (with_reducible refine bstep (by assumption) ?_ ?_) | (with_reducible exact Nat.le_refl _) | omega | (simp [*]; done) | (simp [*]; omega)))) rfl rfl (((((((((HP_1.out).far (p := ⟨w.heap.size, 3, none⟩) (fun hn a ha => by have := HP_lt.out hn a ha; show a.block ≠ w.heap.size; omega) _).far (p := ⟨g2, 0, none⟩) (fun hn a ha => by have := HP_lt.out hn a ha; show a.block ≠ g2; omega) _).far (p := ⟨g2, 1, none⟩) (fun hn a ha => by have := HP_lt.out hn a ha; show a.block ≠ g2; omega) _).far (p := ⟨g2, 2, none⟩) (fun hn a ha => by have := HP_lt.out hn a ha; show a.block ≠ g2; omega) _).far (p := ⟨g2, 3, none⟩) (fun hn a ha => by have := HP_lt.out hn a ha; show a.block ≠ g2; omega) _).far (p := ⟨g2, 4, none⟩) (fun hn a ha => by have := HP_lt.out hn a ha; show a.block ≠ g2; omega) _).far (p := ⟨g2, 5, none⟩) (fun hn a ha => by have := HP_lt.out hn a ha; show a.block ≠ g2; omega) _).far (p := ⟨g2, 6, none⟩) (fun hn a ha => by have := HP_lt.out hn a ha; show a.block ≠ g2; omega) _) hL.out HA.out (((((((((Hy_1.out).far (p := ⟨w.heap.size, 3, none⟩) (fun a ha => by have := (Hy_1.out).ge a ha; show a.block ≠ w.heap.size; omega) _).far (p := ⟨g2, 0, none⟩) (fun a ha => by have := (Hy_1.out).ge a ha; show a.block ≠ g2; omega) _).far (p := ⟨g2, 1, none⟩) (fun a ha => by have := (Hy_1.out).ge a ha; show a.block ≠ g2; omega) _).far (p := ⟨g2, 2, none⟩) (fun a ha => by have := (Hy_1.out).ge a ha; show a.block ≠ g2; omega) _).far (p := ⟨g2, 3, none⟩) (fun a ha => by have := (Hy_1.out).ge a ha; show a.block ≠ g2; omega) _).far (p := ⟨g2, 4, none⟩) (fun a ha => by have := (Hy_1.out).ge a ha; show a.block ≠ g2; omega) _).far (p := ⟨g2, 5, none⟩) (fun a ha => by have := (Hy_1.out).ge a ha; show a.block ≠ g2; omega) _).far (p := ⟨g2, 6, none⟩) (fun a ha => by have := (Hy_1.out).ge a ha; show a.block ≠ g2; omega) _).sl hk2.out (row_nil Hy_1.out) (fun h0 a ha => .inl (hPl h0 a ha)) (fun _ a ha => .inr (by have := (Hy_1.out).ge a ha; omega))
theorem eff3_any (A : Option Addr) (n c : Nat) (B : Option Addr) (m d : Nat) (i0 t0 l0 l1 l2 : Int) (pl : List Pr) (ql : List Jb) (ex et ec es ek ea eb eg eh : Int) (w : World) (hP : Sl w 2 A n (PR pl)) (hQ : Sl w 5 B m (JB ql)) (hl : pl.length = n) (hr : ql.length = m) (hn : n ≤ maxLen) (hm : m ≤ maxLen) (hA : A = none → n = 0 ∧ c = 0) (hB : B = none → m = 0 ∧ d = 0) (lo : Nat) (hPl : 0 < n → LtB A lo) (hQl : 0 < m → LtB B lo) :
    Calls Tryz.prog 101 #[.agg #[.int .i64 i0, .int .i64 t0, .slice A n c, .slice B m d, .int .i64 l0, .int .i64 l1, .int .i64 l2], .agg #[.int .i64 ex, .int .i64 et, .int .i64 ec, .int .i64 es, .int .i64 ek, .int .i64 ea, .int .i64 eb, .int .i64 eg, .int .i64 eh]] w (RetEff w lo i0 t0 pl (addR ql ⟨ea, eb, eg, eh, 0⟩).1 l0 l1 l2 (addR ql ⟨ea, eb, eg, eh, 0⟩).2) :=
  eff3_g A n c B m d i0 t0 l0 l1 l2 pl ql ex et ec es ek ea eb eg eh w hP hQ hl hr hn hm hA hB lo hPl hQl _ _ _ (Lib.hid rfl) (Lib.hid rfl)
set_option maxRecDepth 100000 in
set_option maxHeartbeats 4000000 in
theorem eff5_g (A : Option Addr) (n c : Nat) (B : Option Addr) (m d : Nat) (i0 t0 l0 l1 l2 : Int) (pl : List Pr) (ql : List Jb) (ex et ec es ek ea eb eg eh : Int) (w : World) (hP : Sl w 2 A n (PR pl)) (hQ : Sl w 5 B m (JB ql)) (hl : pl.length = n) (hr : ql.length = m) (hn : n ≤ maxLen) (hm : m ≤ maxLen) (hA : A = none → n = 0 ∧ c = 0) (hB : B = none → m = 0 ∧ d = 0) (lo : Nat) (hPl : 0 < n → LtB A lo) (hQl : 0 < m → LtB B lo) (h2 e2 u2 : Int) (ok : Bool) (hg2 : Hid (grantL l0 l1 l2 ec et ea = ((h2, e2, u2), ok))) :
    Calls Tryz.prog 107 #[.agg #[.int .i64 i0, .int .i64 t0, .slice A n c, .slice B m d, .int .i64 l0, .int .i64 l1, .int .i64 l2], .agg #[.int .i64 ex, .int .i64 et, .int .i64 ec, .int .i64 es, .int .i64 ek, .int .i64 ea, .int .i64 eb, .int .i64 eg, .int .i64 eh]] w (RetEff w lo i0 t0 pl ql h2 e2 u2 ok) := by
  have HP := Lib.hid hP
  have HQ := Lib.hid hQ
  have HA := Lib.hid hA
  have HB := Lib.hid hB
  have hL := Lib.hid hl
  have hR := Lib.hid hr
  clear hP hQ hA hB hl hr
  go_enter Tryz.func107, Tryz.ntmps107
  go_wp2_with fail
  refine calls_named ?_
  rintro v0 hv0
  have f0 : Below w.heap.size w v0 := by rw [hv0]; (repeat' (first | (with_reducible exact Below.refl _ _) | (with_reducible assumption) | (with_reducible refine Below.alloc ?_ ?_ _) | (with_reducible refine Below.drew ?_) | (with_reducible refine Below.setCell ?_ ?_ _) | (with_reducible refine bstep (by assumption) ?_ ?_) | (with_reducible exact Nat.le_refl _) | omega | (simp [*]; done) | (simp [*]; omega)))
  have z0 : w.heap.size + 3 ≤ v0.heap.size := by rw [hv0]; simp [size_set]
  have HP_0 := Lib.hid (HP.out.below f0)
  have HP_lt := Lib.hid (fun hn => HP.out.lt hn)
  have HQ_0 := Lib.hid (HQ.out.below f0)
  have HQ_lt := Lib.hid (fun hn => HQ.out.lt hn)
  have Ha_0 : Hid (Blk v0 w.heap.size 37 #[.int .i64 i0, .int .i64 t0, .slice A n c, .slice B m d, .int .i64 l0, .int .i64 l1, .int .i64 l2]) := by rw [hv0]; exact ((Blk.new_at _ _ _ _ (by simp)).alloc _).alloc _
  have Hb_0 : Hid (Blk v0 (w.heap.size + 1) 43 #[.int .i64 ex, .int .i64 et, .int .i64 ec, .int .i64 es, .int .i64 ek, .int .i64 ea, .int .i64 eb, .int .i64 eg, .int .i64 eh]) := by rw [hv0]; exact (Blk.new_at _ _ _ _ (by simp)).alloc _
  have Hr_0 : Hid (Blk v0 (w.heap.size + 1 + 1) 37 #[.int .i64 0, .int .i64 0, .slice none 0 0, .slice none 0 0, .int .i64 0, .int .i64 0, .int .i64 0]) := by rw [hv0]; exact Blk.new_at _ _ _ _ (by simp)
  clear hv0
  generalize hg2 : w.heap.size + 1 + 1 = g2 at *
  generalize hg1 : w.heap.size + 1 = g1 at *
  have lg1 : w.heap.size < g1 := by omega
  have lg2 : g1 < g2 := by omega
  have lgz : g2 < v0.heap.size := by omega
  have nq1x0 : ¬ g1 = w.heap.size := by omega
  have nq0x1 : ¬ w.heap.size = g1 := by omega
  have nq2x0 : ¬ g2 = w.heap.size := by omega
  have nq0x2 : ¬ w.heap.size = g2 := by omega
  have nq2x1 : ¬ g2 = g1 := by omega
  have nq1x2 : ¬ g1 = g2 := by omega
  clear hg1 hg2
  have lt_a := Ha_0.out.lt
  obtain ⟨r_a0, r_a1, r_a2, r_a3, r_a4, r_a5, r_a6⟩ := bc7 Ha_0.out
  obtain ⟨z_a0, z_a1, z_a2, z_a3, z_a4, z_a5, z_a6⟩ := bf7 Ha_0.out
  have lt_b := Hb_0.out.lt
  obtain ⟨r_b0, r_b1, r_b2, r_b3, r_b4, r_b5, r_b6, r_b7, r_b8⟩ := bc9 Hb_0.out
  have lt_r := Hr_0.out.lt
  obtain ⟨r_r0, r_r1, r_r2, r_r3, r_r4, r_r5, r_r6⟩ := bc7 Hr_0.out
  obtain ⟨z_r0, z_r1, z_r2, z_r3, z_r4, z_r5, z_r6⟩ := bf7 Hr_0.out
  have cc := Granted_any l0 l1 l2 ec et ea v0
  rw [hg2.out] at cc
  replace cc := cc.mono (fun _ _ h => Lib.hid h)
  have HX : ∀ e w1, RetGrant v0 ((h2, e2, u2), ok) e w1 → e = .returned (.tuple #[.agg #[.int .i64 h2, .int .i64 e2, .int .i64 u2], .bool ok]) ∧ Below v0.heap.size v0 w1 := fun e w1 h => h
  go_wp2_with fail
  refine cc.mono ?_
  rintro e v1 hx
  obtain ⟨rfl, b1⟩ := HX _ _ hx.out
  clear HX hx
  have f1 := bthen f0 b1
  have z1 := b1.size
  have HP_1 := Lib.hid (HP_0.out.below b1)
  have HQ_1 := Lib.hid (HQ_0.out.below b1)
  have Ha_1 := Lib.hid (Ha_0.out.below b1)
  have Hb_1 := Lib.hid (Hb_0.out.below b1)
  have Hr_1 := Lib.hid (Hr_0.out.below b1)
  clear lt_a r_a0 r_a1 r_a2 r_a3 r_a4 r_a5 r_a6 z_a0 z_a1 z_a2 z_a3 z_a4 z_a5 z_a6 lt_b r_b0 r_b1 r_b2 r_b3 r_b4 r_b5 r_b6 r_b7 r_b8 lt_r r_r0 r_r1 r_r2 r_r3 r_r4 r_r5 r_r6 z_r0 z_r1 z_r2 z_r3 z_r4 z_r5 z_r6
  clear HP_0 HQ_0 Ha_0 Hb_0 Hr_0
  clear cc
  have lt_a := Ha_1.out.lt
  obtain ⟨r_a0, r_a1, r_a2, r_a3, r_a4, r_a5, r_a6⟩ := bc7 Ha_1.out
  obtain ⟨z_a0, z_a1, z_a2, z_a3, z_a4, z_a5, z_a6⟩ := bf7 Ha_1.out
  have lt_b := Hb_1.out.lt
  obtain ⟨r_b0, r_b1, r_b2, r_b3, r_b4, r_b5, r_b6, r_b7, r_b8⟩ := bc9 Hb_1.out
  have lt_r := Hr_1.out.lt
  obtain ⟨r_r0, r_r1, r_r2, r_r3, r_r4, r_r5, r_r6⟩ := bc7 Hr_1.out
  obtain ⟨z_r0, z_r1, z_r2, z_r3, z_r4, z_r5, z_r6⟩ := bf7 Hr_1.out
  go_upto_region 2 with fail
  obtain ⟨v2, hv2⟩ : ∃ x : World, x = (v1.alloc (.cells #[.int .i64 h2, .int .i64 e2, .int .i64 u2] 35)) := ⟨_, rfl⟩
  rw [← hv2]
  have f2 : Below w.heap.size w v2 := by rw [hv2]; (repeat' (first | (with_reducible exact Below.refl _ _) | (with_reducible assumption) | (with_reducible refine Below.alloc ?_ ?_ _) | (with_reducible refine Below.drew ?_) | (with_reducible refine Below.setCell ?_ ?_ _) | (with_reducible refine bstep (by assumption) ?_ ?_) | (with_reducible exact Nat.le_refl _) | omega | (simp [*]; done) | (simp [*]; omega)))
  have z2 : v1.heap.size + 1 ≤ v2.heap.size := by rw [hv2]; simp [size_set]
  have HP_2 : Hid (Sl v2 2 A n (PR pl)) := by rw [hv2]; exact (HP_1.out).alloc _
  have HQ_2 : Hid (Sl v2 5 B m (JB ql)) := by rw [hv2]; exact (HQ_1.out).alloc _
  have Ha_2 : Hid (Blk v2 w.heap.size 37 #[.int .i64 i0, .int .i64 t0, .slice A n c, .slice B m d, .int .i64 l0, .int .i64 l1, .int .i64 l2]) := by rw [hv2]; exact (Ha_1.out).alloc _
  have Hb_2 : Hid (Blk v2 g1 43 #[.int .i64 ex, .int .i64 et, .int .i64 ec, .int .i64 es, .int .i64 ek, .int .i64 ea, .int .i64 eb, .int .i64 eg, .int .i64 eh]) := by rw [hv2]; exact (Hb_1.out).alloc _
  have Hr_2 : Hid (Blk v2 g2 37 #[.int .i64 0, .int .i64 0, .slice none 0 0, .slice none 0 0, .int .i64 0, .int .i64 0, .int .i64 0]) := by rw [hv2]; exact (Hr_1.out).alloc _
  have Hl_2 : Hid (Blk v2 v1.heap.size 35 #[.int .i64 h2, .int .i64 e2, .int .i64 u2]) := by rw [hv2]; exact (Blk.new_at _ _ _ _ (by simp [size_set]))
  clear lt_a r_a0 r_a1 r_a2 r_a3 r_a4 r_a5 r_a6 z_a0 z_a1 z_a2 z_a3 z_a4 z_a5 z_a6 lt_b r_b0 r_b1 r_b2 r_b3 r_b4 r_b5 r_b6 r_b7 r_b8 lt_r r_r0 r_r1 r_r2 r_r3 r_r4 r_r5 r_r6 z_r0 z_r1 z_r2 z_r3 z_r4 z_r5 z_r6
  clear hv2 HP_1 HQ_1 Ha_1 Hb_1 Hr_1
  have lt_a := Ha_2.out.lt
  obtain ⟨r_a0, r_a1, r_a2, r_a3, r_a4, r_a5, r_a6⟩ := bc7 Ha_2.out
  obtain ⟨z_a0, z_a1, z_a2, z_a3, z_a4, z_a5, z_a6⟩ := bf7 Ha_2.out
  have lt_b := Hb_2.out.lt
  obtain ⟨r_b0, r_b1, r_b2, r_b3, r_b4, r_b5, r_b6, r_b7, r_b8⟩ := bc9 Hb_2.out
  have lt_r := Hr_2.out.lt
  obtain ⟨r_r0, r_r1, r_r2, r_r3, r_r4, r_r5, r_r6⟩ := bc7 Hr_2.out
  obtain ⟨z_r0, z_r1, z_r2, z_r3, z_r4, z_r5, z_r6⟩ := bf7 Hr_2.out
  have lt_l := Hl_2.out.lt
  obtain ⟨r_l0, r_l1, r_l2⟩ := bc3 Hl_2.out
  go_wp21
  refine bodyPost_ret (v := .tuple #[.agg #[.int .i64 i0, .int .i64 t0, .slice A n c, .slice B m d, .int .i64 h2, .int .i64 e2, .int .i64 u2], .bool ok]) (by simp [results, Tryz.results107, go_sem, *]) rfl ?_
  exact RetEff.of (by (repeat' (first | (with_reducible exact Below.refl _ _) | (with_reducible assumption) | (with_reducible refine Below.alloc ?_ ?_ _) | (with_reducible refine Below.drew ?_) | (with_reducible refine Below.setCell ?_ ?_ _) | (with_reducible refine bstep (by assumption) ?_ ?_) | (with_reducible exact Nat.le_refl _) | omega | (simp [*]; done) | (simp [*]; omega)))) rfl rfl (((((((((((HP_2.out).far (p := ⟨w.heap.size, 4, none⟩) (fun hn a ha => by have := HP_lt.out hn a ha; show a.block ≠ w.heap.size; omega) _).far (p := ⟨w.heap.size, 5, none⟩) (fun hn a ha => by have := HP_lt.out hn a ha; show a.block ≠ w.heap.size; omega) _).far (p := ⟨w.heap.size, 6, none⟩) (fun hn a ha => by have := HP_lt.out hn a ha; show a.block ≠ w.heap.size; omega) _).far (p := ⟨g2, 0, none⟩) (fun hn a ha => by have := HP_lt.out hn a ha; show a.block ≠ g2; omega) _).far (p := ⟨g2, 1, none⟩) (fun hn a ha => by have := HP_lt.out hn a ha; show a.block ≠ g2; omega) _).far (p := ⟨g2, 2, none⟩) (fun hn a ha => by have := HP_lt.out hn a ha; show a.block ≠ g2; omega) _).far (p := ⟨g2, 3, none⟩) (fun hn a ha => by have := HP_lt.out hn a ha; show a.block ≠ g2; omega) _).far (p := ⟨g2, 4, none⟩) (fun hn a ha => by have := HP_lt.out hn a ha; show a.block ≠ g2; omega) _).far (p := ⟨g2, 5, none⟩) (fun hn a ha => by have := HP_lt.out hn a ha; show a.block ≠ g2; omega) _).far (p := ⟨g2, 6, none⟩) (fun hn a ha => by have := HP_lt.out hn a ha; show a.block ≠ g2; omega) _) hL.out HA.out (((((((((((HQ_2.out).far (p := ⟨w.heap.size, 4, none⟩) (fun hn a ha => by have := HQ_lt.out hn a ha; show a.block ≠ w.heap.size; omega) _).far (p := ⟨w.heap.size, 5, none⟩) (fun hn a ha => by have := HQ_lt.out hn a ha; show a.block ≠ w.heap.size; omega) _).far (p := ⟨w.heap.size, 6, none⟩) (fun hn a ha => by have := HQ_lt.out hn a ha; show a.block ≠ w.heap.size; omega) _).far (p := ⟨g2, 0, none⟩) (fun hn a ha => by have := HQ_lt.out hn a ha; show a.block ≠ g2; omega) _).far (p := ⟨g2, 1, none⟩) (fun hn a ha => by have := HQ_lt.out hn a ha; show a.block ≠ g2; omega) _).far (p := ⟨g2, 2, none⟩) (fun hn a ha => by have := HQ_lt.out hn a ha; show a.block ≠ g2; omega) _).far (p := ⟨g2, 3, none⟩) (fun hn a ha => by have := HQ_lt.out hn a ha; show a.block ≠ g2; omega) _).far (p := ⟨g2, 4, none⟩) (fun hn a ha => by have := HQ_lt.out hn a ha; show a.block ≠ g2; omega) _).far (p := ⟨g2, 5, none⟩) (fun hn a ha => by have := HQ_lt.out hn a ha; show a.block ≠ g2; omega) _).far (p := ⟨g2, 6, none⟩) (fun hn a ha => by have := HQ_lt.out hn a ha; show a.block ≠ g2; omega) _) hR.out HB.out (fun h0 a ha => .inl (hPl h0 a ha)) (fun h0 a ha => .inl (hQl h0 a ha))
theorem eff5_any (A : Option Addr) (n c : Nat) (B : Option Addr) (m d : Nat) (i0 t0 l0 l1 l2 : Int) (pl : List Pr) (ql : List Jb) (ex et ec es ek ea eb eg eh : Int) (w : World) (hP : Sl w 2 A n (PR pl)) (hQ : Sl w 5 B m (JB ql)) (hl : pl.length = n) (hr : ql.length = m) (hn : n ≤ maxLen) (hm : m ≤ maxLen) (hA : A = none → n = 0 ∧ c = 0) (hB : B = none → m = 0 ∧ d = 0) (lo : Nat) (hPl : 0 < n → LtB A lo) (hQl : 0 < m → LtB B lo) :
    Calls Tryz.prog 107 #[.agg #[.int .i64 i0, .int .i64 t0, .slice A n c, .slice B m d, .int .i64 l0, .int .i64 l1, .int .i64 l2], .agg #[.int .i64 ex, .int .i64 et, .int .i64 ec, .int .i64 es, .int .i64 ek, .int .i64 ea, .int .i64 eb, .int .i64 eg, .int .i64 eh]] w (RetEff w lo i0 t0 pl ql (grantL l0 l1 l2 ec et ea).1.1 (grantL l0 l1 l2 ec et ea).1.2.1 (grantL l0 l1 l2 ec et ea).1.2.2 (grantL l0 l1 l2 ec et ea).2) :=
  eff5_g A n c B m d i0 t0 l0 l1 l2 pl ql ex et ec es ek ea eb eg eh w hP hQ hl hr hn hm hA hB lo hPl hQl _ _ _ _ (Lib.hid rfl)
set_option maxRecDepth 100000 in
set_option maxHeartbeats 4000000 in
theorem eff4_no (A : Option Addr) (n c : Nat) (B : Option Addr) (m d : Nat) (i0 t0 l0 l1 l2 : Int) (pl : List Pr) (ql : List Jb) (ex et ec es ek ea eb eg eh : Int) (w : World) (hP : Sl w 2 A n (PR pl)) (hQ : Sl w 5 B m (JB ql)) (hl : pl.length = n) (hr : ql.length = m) (hn : n ≤ maxLen) (hm : m ≤ maxLen) (hA : A = none → n = 0 ∧ c = 0) (hB : B = none → m = 0 ∧ d = 0) (lo : Nat) (hPl : 0 < n → LtB A lo) (hQl : 0 < m → LtB B lo) (p2 : List Pr) (q2 : List Jb) (h2 e2 u2 : Int) (hf : Hid (firesB l0 l1 l2 ql et ec ek ea eb = false)) :
    Calls Tryz.prog 103 #[.agg #[.int .i64 i0, .int .i64 t0, .slice A n c, .slice B m d, .int .i64 l0, .int .i64 l1, .int .i64 l2], .agg #[.int .i64 ex, .int .i64 et, .int .i64 ec, .int .i64 es, .int .i64 ek, .int .i64 ea, .int .i64 eb, .int .i64 eg, .int .i64 eh]] w (RetEff w lo i0 t0 p2 q2 h2 e2 u2 false) := by
  have HP := Lib.hid hP
  have HQ := Lib.hid hQ
  have HA := Lib.hid hA
  have HB := Lib.hid hB
  have hL := Lib.hid hl
  have hR := Lib.hid hr
  clear hP hQ hA hB hl hr
  go_enter Tryz.func103, Tryz.ntmps103
  go_wp2_with fail
  refine calls_named ?_
  rintro v0 hv0
  have f0 : Below w.heap.size w v0 := by rw [hv0]; (repeat' (first | (with_reducible exact Below.refl _ _) | (with_reducible assumption) | (with_reducible refine Below.alloc ?_ ?_ _) | (with_reducible refine Below.drew ?_) | (with_reducible refine Below.setCell ?_ ?_ _) | (with_reducible refine bstep (by assumption) ?_ ?_) | (with_reducible exact Nat.le_refl _) | omega | (simp [*]; done) | (simp [*]; omega)))
  have z0 : w.heap.size + 3 ≤ v0.heap.size := by rw [hv0]; simp [size_set]
  have HP_0 := Lib.hid (HP.out.below f0)
  have HP_lt := Lib.hid (fun hn => HP.out.lt hn)
  have HQ_0 := Lib.hid (HQ.out.below f0)
  have HQ_lt := Lib.hid (fun hn => HQ.out.lt hn)
  have Ha_0 : Hid (Blk v0 w.heap.size 37 #[.int .i64 i0, .int .i64 t0, .slice A n c, .slice B m d, .int .i64 l0, .int .i64 l1, .int .i64 l2]) := by rw [hv0]; exact ((Blk.new_at _ _ _ _ (by simp)).alloc _).alloc _
  have Hb_0 : Hid (Blk v0 (w.heap.size + 1) 43 #[.int .i64 ex, .int .i64 et, .int .i64 ec, .int .i64 es, .int .i64 ek, .int .i64 ea, .int .i64 eb, .int .i64 eg, .int .i64 eh]) := by rw [hv0]; exact (Blk.new_at _ _ _ _ (by simp)).alloc _
  have Hr_0 : Hid (Blk v0 (w.heap.size + 1 + 1) 37 #[.int .i64 0, .int .i64 0, .slice none 0 0, .slice none 0 0, .int .i64 0, .int .i64 0, .int .i64 0]) := by rw [hv0]; exact Blk.new_at _ _ _ _ (by simp)
  clear hv0
  generalize hg2 : w.heap.size + 1 + 1 = g2 at *
  generalize hg1 : w.heap.size + 1 = g1 at *
  have lg1 : w.heap.size < g1 := by omega
  have lg2 : g1 < g2 := by omega
  have lgz : g2 < v0.heap.size := by omega
  have nq1x0 : ¬ g1 = w.heap.size := by omega
  have nq0x1 : ¬ w.heap.size = g1 := by omega
  have nq2x0 : ¬ g2 = w.heap.size := by omega
  have nq0x2 : ¬ w.heap.size = g2 := by omega
  have nq2x1 : ¬ g2 = g1 := by omega
  have nq1x2 : ¬ g1 = g2 := by omega
  clear hg1 hg2
  have lt_a := Ha_0.out.lt
  obtain ⟨r_a0, r_a1, r_a2, r_a3, r_a4, r_a5, r_a6⟩ := bc7 Ha_0.out
  obtain ⟨z_a0, z_a1, z_a2, z_a3, z_a4, z_a5, z_a6⟩ := bf7 Ha_0.out
  have lt_b := Hb_0.out.lt
  obtain ⟨r_b0, r_b1, r_b2, r_b3, r_b4, r_b5, r_b6, r_b7, r_b8⟩ := bc9 Hb_0.out
  have lt_r := Hr_0.out.lt
  obtain ⟨r_r0, r_r1, r_r2, r_r3, r_r4, r_r5, r_r6⟩ := bc7 Hr_0.out
  obtain ⟨z_r0, z_r1, z_r2, z_r3, z_r4, z_r5, z_r6⟩ := bf7 Hr_0.out
  have cc := fires_any A n c B m d i0 t0 l0 l1 l2 ql ex et ec es ek ea eb eg eh v0 HQ_0.out hR.out hm
  rw [hf.out] at cc
  go_wp2_with fail
  refine (cc).mono ?_
  rintro e v1 ⟨rfl, b1⟩
  have f1 := bthen f0 b1
  have z1 := b1.size
  have HP_1 := Lib.hid (HP_0.out.below b1)
  have HQ_1 := Lib.hid (HQ_0.out.below b1)
  have Ha_1 := Lib.hid (Ha_0.out.below b1)
  have Hb_1 := Lib.hid (Hb_0.out.below b1)
  have Hr_1 := Lib.hid (Hr_0.out.below b1)
  clear lt_a r_a0 r_a1 r_a2 r_a3 r_a4 r_a5 r_a6 z_a0 z_a1 z_a2 z_a3 z_a4 z_a5 z_a6 lt_b r_b0 r_b1 r_b2 r_b3 r_b4 r_b5 r_b6 r_b7 r_b8 lt_r r_r0 r_r1 r_r2 r_r3 r_r4 r_r5 r_r6 z_r0 z_r1 z_r2 z_r3 z_r4 z_r5 z_r6
  clear HP_0 HQ_0 Ha_0 Hb_0 Hr_0
  clear cc
  have lt_a := Ha_1.out.lt
  obtain ⟨r_a0, r_a1, r_a2, r_a3, r_a4, r_a5, r_a6⟩ := bc7 Ha_1.out
  obtain ⟨z_a0, z_a1, z_a2, z_a3, z_a4, z_a5, z_a6⟩ := bf7 Ha_1.out
  have lt_b := Hb_1.out.lt
  obtain ⟨r_b0, r_b1, r_b2, r_b3, r_b4, r_b5, r_b6, r_b7, r_b8⟩ := bc9 Hb_1.out
  have lt_r := Hr_1.out.lt
  obtain ⟨r_r0, r_r1, r_r2, r_r3, r_r4, r_r5, r_r6⟩ := bc7 Hr_1.out
  obtain ⟨z_r0, z_r1, z_r2, z_r3, z_r4, z_r5, z_r6⟩ := bf7 Hr_1.out
  go_wp21
  refine bodyPost_ret (v := .tuple #[.agg #[.int .i64 i0, .int .i64 t0, .slice A n c, .slice B m d, .int .i64 l0, .int .i64 l1, .int .i64 l2], .bool false]) (by simp [results, Tryz.results103, go_sem, *]) rfl ?_
  exact RetEff.no (by (repeat' (first | (with_reducible exact Below.refl _ _) | (with_reducible assumption) | (with_reducible refine Below.alloc ?_ ?_ _) | (with_reducible refine Below.drew ?_) | (with_reducible refine Below.setCell ?_ ?_ _) | (with_reducible refine bstep (by assumption) ?_ ?_) | (with_reducible exact Nat.le_refl _) | omega | (simp [*]; done) | (simp [*]; omega))))
set_option maxRecDepth 100000 in
set_option maxHeartbeats 4000000 in
theorem eff4_yes (A : Option Addr) (n c : Nat) (B : Option Addr) (m d : Nat) (i0 t0 l0 l1 l2 : Int) (pl : List Pr) (ql : List Jb) (ex et ec es ek ea eb eg eh : Int) (w : World) (hP : Sl w 2 A n (PR pl)) (hQ : Sl w 5 B m (JB ql)) (hl : pl.length = n) (hr : ql.length = m) (hn : n ≤ maxLen) (hm : m ≤ maxLen) (hA : A = none → n = 0 ∧ c = 0) (hB : B = none → m = 0 ∧ d = 0) (lo : Nat) (hPl : 0 < n → LtB A lo) (hQl : 0 < m → LtB B lo) (p2 : List Pr) (q2 : List Jb) (n2 m2 : Nat) (o1 o2 : Bool) (ji jd jk jv jf : Int) (jo : Bool) (hf : Hid (firesB l0 l1 l2 ql et ec ek ea eb = true)) (hj : Hid (jobAtV ql ea = (⟨ji, jd, jk, jv, jf⟩, jo))) (hq2 : Hid (firedR ql ji ex = (q2, o2))) (hp2 : Hid (putR pl jk jv = (p2, o1))) (hm2 : Hid (q2.length = m2)) (hn2 : Hid (p2.length = n2)) :
    Calls Tryz.prog 103 #[.agg #[.int .i64 i0, .int .i64 t0, .slice A n c, .slice B m d, .int .i64 l0, .int .i64 l1, .int .i64 l2], .agg #[.int .i64 ex, .int .i64 et, .int .i64 ec, .int .i64 es, .int .i64 ek, .int .i64 ea, .int .i64 eb, .int .i64 eg, .int .i64 eh]] w (RetEff w lo i0 t0 p2 q2 l0 l1 l2 true) := by
  have HP := Lib.hid hP
  have HQ := Lib.hid hQ
  have HA := Lib.hid hA
  have HB := Lib.hid hB
  have hL := Lib.hid hl
  have hR := Lib.hid hr
  clear hP hQ hA hB hl hr
  go_enter Tryz.func103, Tryz.ntmps103
  go_wp2_with fail
  refine calls_named ?_
  rintro v0 hv0
  have f0 : Below w.heap.size w v0 := by rw [hv0]; (repeat' (first | (with_reducible exact Below.refl _ _) | (with_reducible assumption) | (with_reducible refine Below.alloc ?_ ?_ _) | (with_reducible refine Below.drew ?_) | (with_reducible refine Below.setCell ?_ ?_ _) | (with_reducible refine bstep (by assumption) ?_ ?_) | (with_reducible exact Nat.le_refl _) | omega | (simp [*]; done) | (simp [*]; omega)))
  have z0 : w.heap.size + 3 ≤ v0.heap.size := by rw [hv0]; simp [size_set]
  have HP_0 := Lib.hid (HP.out.below f0)
  have HP_lt := Lib.hid (fun hn => HP.out.lt hn)
  have HQ_0 := Lib.hid (HQ.out.below f0)
  have HQ_lt := Lib.hid (fun hn => HQ.out.lt hn)
  have Ha_0 : Hid (Blk v0 w.heap.size 37 #[.int .i64 i0, .int .i64 t0, .slice A n c, .slice B m d, .int .i64 l0, .int .i64 l1, .int .i64 l2]) := by rw [hv0]; exact ((Blk.new_at _ _ _ _ (by simp)).alloc _).alloc _
  have Hb_0 : Hid (Blk v0 (w.heap.size + 1) 43 #[.int .i64 ex, .int .i64 et, .int .i64 ec, .int .i64 es, .int .i64 ek, .int .i64 ea, .int .i64 eb, .int .i64 eg, .int .i64 eh]) := by rw [hv0]; exact (Blk.new_at _ _ _ _ (by simp)).alloc _
  have Hr_0 : Hid (Blk v0 (w.heap.size + 1 + 1) 37 #[.int .i64 0, .int .i64 0, .slice none 0 0, .slice none 0 0, .int .i64 0, .int .i64 0, .int .i64 0]) := by rw [hv0]; exact Blk.new_at _ _ _ _ (by simp)
  clear hv0
  generalize hg2 : w.heap.size + 1 + 1 = g2 at *
  generalize hg1 : w.heap.size + 1 = g1 at *
  have lg1 : w.heap.size < g1 := by omega
  have lg2 : g1 < g2 := by omega
  have lgz : g2 < v0.heap.size := by omega
  have nq1x0 : ¬ g1 = w.heap.size := by omega
  have nq0x1 : ¬ w.heap.size = g1 := by omega
  have nq2x0 : ¬ g2 = w.heap.size := by omega
  have nq0x2 : ¬ w.heap.size = g2 := by omega
  have nq2x1 : ¬ g2 = g1 := by omega
  have nq1x2 : ¬ g1 = g2 := by omega
  clear hg1 hg2
  have lt_a := Ha_0.out.lt
  obtain ⟨r_a0, r_a1, r_a2, r_a3, r_a4, r_a5, r_a6⟩ := bc7 Ha_0.out
  obtain ⟨z_a0, z_a1, z_a2, z_a3, z_a4, z_a5, z_a6⟩ := bf7 Ha_0.out
  have lt_b := Hb_0.out.lt
  obtain ⟨r_b0, r_b1, r_b2, r_b3, r_b4, r_b5, r_b6, r_b7, r_b8⟩ := bc9 Hb_0.out
  have lt_r := Hr_0.out.lt
  obtain ⟨r_r0, r_r1, r_r2, r_r3, r_r4, r_r5, r_r6⟩ := bc7 Hr_0.out
  obtain ⟨z_r0, z_r1, z_r2, z_r3, z_r4, z_r5, z_r6⟩ := bf7 Hr_0.out
  have cc := fires_any A n c B m d i0 t0 l0 l1 l2 ql ex et ec es ek ea eb eg eh v0 HQ_0.out hR.out hm
  rw [hf.out] at cc
  go_wp2_with fail
  refine (cc).mono ?_
  rintro e v1 ⟨rfl, b1⟩
  have f1 := bthen f0 b1
  have z1 := b1.size
  have HP_1 := Lib.hid (HP_0.out.below b1)
  have HQ_1 := Lib.hid (HQ_0.out.below b1)
  have Ha_1 := Lib.hid (Ha_0.out.below b1)
  have Hb_1 := Lib.hid (Hb_0.out.below b1)
  have Hr_1 := Lib.hid (Hr_0.out.below b1)
  clear lt_a r_a0 r_a1 r_a2 r_a3 r_a4 r_a5 r_a6 z_a0 z_a1 z_a2 z_a3 z_a4 z_a5 z_a6 lt_b r_b0 r_b1 r_b2 r_b3 r_b4 r_b5 r_b6 r_b7 r_b8 lt_r r_r0 r_r1 r_r2 r_r3 r_r4 r_r5 r_r6 z_r0 z_r1 z_r2 z_r3 z_r4 z_r5 z_r6
  clear HP_0 HQ_0 Ha_0 Hb_0 Hr_0
  clear cc
  have lt_a := Ha_1.out.lt
  obtain ⟨r_a0, r_a1, r_a2, r_a3, r_a4, r_a5, r_a6⟩ := bc7 Ha_1.out
  obtain ⟨z_a0, z_a1, z_a2, z_a3, z_a4, z_a5, z_a6⟩ := bf7 Ha_1.out
  have lt_b := Hb_1.out.lt
  obtain ⟨r_b0, r_b1, r_b2, r_b3, r_b4, r_b5, r_b6, r_b7, r_b8⟩ := bc9 Hb_1.out
  have lt_r := Hr_1.out.lt
  obtain ⟨r_r0, r_r1, r_r2, r_r3, r_r4, r_r5, r_r6⟩ := bc7 Hr_1.out
  obtain ⟨z_r0, z_r1, z_r2, z_r3, z_r4, z_r5, z_r6⟩ := bf7 Hr_1.out
  have cc := jobAtV_any B m d ql ea v1 HQ_1.out hR.out hm
  rw [hj.out] at cc
  go_wp2_with fail
  refine (cc).mono ?_
  rintro e v2 ⟨rfl, b2⟩
  have f2 := bthen f1 b2
  have z2 := b2.size
  have HP_2 := Lib.hid (HP_1.out.below b2)
  have HQ_2 := Lib.hid (HQ_1.out.below b2)
  have Ha_2 := Lib.hid (Ha_1.out.below b2)
  have Hb_2 := Lib.hid (Hb_1.out.below b2)
  have Hr_2 := Lib.hid (Hr_1.out.below b2)
  clear lt_a r_a0 r_a1 r_a2 r_a3 r_a4 r_a5 r_a6 z_a0 z_a1 z_a2 z_a3 z_a4 z_a5 z_a6 lt_b r_b0 r_b1 r_b2 r_b3 r_b4 r_b5 r_b6 r_b7 r_b8 lt_r r_r0 r_r1 r_r2 r_r3 r_r4 r_r5 r_r6 z_r0 z_r1 z_r2 z_r3 z_r4 z_r5 z_r6
  clear HP_1 HQ_1 Ha_1 Hb_1 Hr_1
  clear cc
  have lt_a := Ha_2.out.lt
  obtain ⟨r_a0, r_a1, r_a2, r_a3, r_a4, r_a5, r_a6⟩ := bc7 Ha_2.out
  obtain ⟨z_a0, z_a1, z_a2, z_a3, z_a4, z_a5, z_a6⟩ := bf7 Ha_2.out
  have lt_b := Hb_2.out.lt
  obtain ⟨r_b0, r_b1, r_b2, r_b3, r_b4, r_b5, r_b6, r_b7, r_b8⟩ := bc9 Hb_2.out
  have lt_r := Hr_2.out.lt
  obtain ⟨r_r0, r_r1, r_r2, r_r3, r_r4, r_r5, r_r6⟩ := bc7 Hr_2.out
  obtain ⟨z_r0, z_r1, z_r2, z_r3, z_r4, z_r5, z_r6⟩ := bf7 Hr_2.out
  go_wp2_with fail
  refine calls_named ?_
  rintro v3 hv3
  have f3 : Below w.heap.size w v3 := by rw [hv3]; (repeat' (first | (with_reducible exact Below.refl _ _) | (with_reducible assumption) | (with_reducible refine Below.alloc ?_ ?_ _) | (with_reducible refine Below.drew ?_) | (with_reducible refine Below.setCell ?_ ?_ _) | (with_reducible refine bstep (by assumption) ?_ ?_) | (with_reducible exact Nat.le_refl _) | omega | (simp [*]; done) | (simp [*]; omega)))
  have z3 : v2.heap.size + 1 ≤ v3.heap.size := by rw [hv3]; simp [size_set]
  have HP_3 : Hid (Sl v3 2 A n (PR pl)) := by rw [hv3]; exact (HP_2.out).alloc _
  have HQ_3 : Hid (Sl v3 5 B m (JB ql)) := by rw [hv3]; exact (HQ_2.out).alloc _
  have Ha_3 : Hid (Blk v3 w.heap.size 37 #[.int .i64 i0, .int .i64 t0, .slice A n c, .slice B m d, .int .i64 l0, .int .i64 l1, .int .i64 l2]) := by rw [hv3]; exact (Ha_2.out).alloc _
  have Hb_3 : Hid (Blk v3 g1 43 #[.int .i64 ex, .int .i64 et, .int .i64 ec, .int .i64 es, .int .i64 ek, .int .i64 ea, .int .i64 eb, .int .i64 eg, .int .i64 eh]) := by rw [hv3]; exact (Hb_2.out).alloc _
  have Hr_3 : Hid (Blk v3 g2 37 #[.int .i64 0, .int .i64 0, .slice none 0 0, .slice none 0 0, .int .i64 0, .int .i64 0, .int .i64 0]) := by rw [hv3]; exact (Hr_2.out).alloc _
  have Hj_3 : Hid (Blk v3 v2.heap.size 71 #[.int .i64 ji, .int .i64 jd, .int .i64 jk, .int .i64 jv, .int .i64 jf]) := by rw [hv3]; exact (Blk.new_at _ _ _ _ (by simp [size_set]))
  clear lt_a r_a0 r_a1 r_a2 r_a3 r_a4 r_a5 r_a6 z_a0 z_a1 z_a2 z_a3 z_a4 z_a5 z_a6 lt_b r_b0 r_b1 r_b2 r_b3 r_b4 r_b5 r_b6 r_b7 r_b8 lt_r r_r0 r_r1 r_r2 r_r3 r_r4 r_r5 r_r6 z_r0 z_r1 z_r2 z_r3 z_r4 z_r5 z_r6
  clear hv3 HP_2 HQ_2 Ha_2 Hb_2 Hr_2
  have lt_a := Ha_3.out.lt
  obtain ⟨r_a0, r_a1, r_a2, r_a3, r_a4, r_a5, r_a6⟩ := bc7 Ha_3.out
  obtain ⟨z_a0, z_a1, z_a2, z_a3, z_a4, z_a5, z_a6⟩ := bf7 Ha_3.out
  have lt_b := Hb_3.out.lt
  obtain ⟨r_b0, r_b1, r_b2, r_b3, r_b4, r_b5, r_b6, r_b7, r_b8⟩ := bc9 Hb_3.out
  have lt_r := Hr_3.out.lt
  obtain ⟨r_r0, r_r1, r_r2, r_r3, r_r4, r_r5, r_r6⟩ := bc7 Hr_3.out
  obtain ⟨z_r0, z_r1, z_r2, z_r3, z_r4, z_r5, z_r6⟩ := bf7 Hr_3.out
  have lt_j := Hj_3.out.lt
  obtain ⟨r_j0, r_j1, r_j2, r_j3, r_j4⟩ := bc5 Hj_3.out
  have cc := firedRI_any B m d ql ji ex v3 HQ_3.out hR.out hm HB.out
  rw [hq2.out] at cc
  replace cc := cc.mono (fun _ _ h => Lib.hid h)
  have HX : ∀ e w1, RetRowB v3 71 5 (q2, o2).1.length (JB (q2, o2).1) (q2, o2).2 e w1 → RetRowB v3 71 5 m2 (JB q2) o2 e w1 := fun e w1 h => by
    have := hm2.out
    subst this
    exact h
  refine cc.mono ?_
  rintro e v4 hx
  obtain ⟨B1, d1, rfl, Ry, b4⟩ := HX _ _ hx.out
  clear HX hx cc
  have f4 := bthen f3 b4
  have z4 := b4.size
  have HP_4 := Lib.hid (HP_3.out.below b4)
  have HQ_4 := Lib.hid (HQ_3.out.below b4)
  have Ha_4 := Lib.hid (Ha_3.out.below b4)
  have Hb_4 := Lib.hid (Hb_3.out.below b4)
  have Hr_4 := Lib.hid (Hr_3.out.below b4)
  have Hj_4 := Lib.hid (Hj_3.out.below b4)
  clear lt_a r_a0 r_a1 r_a2 r_a3 r_a4 r_a5 r_a6 z_a0 z_a1 z_a2 z_a3 z_a4 z_a5 z_a6 lt_b r_b0 r_b1 r_b2 r_b3 r_b4 r_b5 r_b6 r_b7 r_b8 lt_r r_r0 r_r1 r_r2 r_r3 r_r4 r_r5 r_r6 z_r0 z_r1 z_r2 z_r3 z_r4 z_r5 z_r6 lt_j r_j0 r_j1 r_j2 r_j3 r_j4
  clear HP_3 HQ_3 Ha_3 Hb_3 Hr_3 Hj_3
  have Hy_4 := Lib.hid Ry
  clear Ry
  have lt_a := Ha_4.out.lt
  obtain ⟨r_a0, r_a1, r_a2, r_a3, r_a4, r_a5, r_a6⟩ := bc7 Ha_4.out
  obtain ⟨z_a0, z_a1, z_a2, z_a3, z_a4, z_a5, z_a6⟩ := bf7 Ha_4.out
  have lt_b := Hb_4.out.lt
  obtain ⟨r_b0, r_b1, r_b2, r_b3, r_b4, r_b5, r_b6, r_b7, r_b8⟩ := bc9 Hb_4.out
  have lt_r := Hr_4.out.lt
  obtain ⟨r_r0, r_r1, r_r2, r_r3, r_r4, r_r5, r_r6⟩ := bc7 Hr_4.out
  obtain ⟨z_r0, z_r1, z_r2, z_r3, z_r4, z_r5, z_r6⟩ := bf7 Hr_4.out
  have lt_j := Hj_4.out.lt
  obtain ⟨r_j0, r_j1, r_j2, r_j3, r_j4⟩ := bc5 Hj_4.out
  go_wp2_with fail
  refine calls_named ?_
  rintro v5 hv5
  have f5 : Below w.heap.size w v5 := by rw [hv5]; (repeat' (first | (with_reducible exact Below.refl _ _) | (with_reducible assumption) | (with_reducible refine Below.alloc ?_ ?_ _) | (with_reducible refine Below.drew ?_) | (with_reducible refine Below.setCell ?_ ?_ _) | (with_reducible refine bstep (by assumption) ?_ ?_) | (with_reducible exact Nat.le_refl _) | omega | (simp [*]; done) | (simp [*]; omega)))
  have z5 : v4.heap.size + 0 ≤ v5.heap.size := by rw [hv5]; simp [size_set]
  have HP_5 : Hid (Sl v5 2 A n (PR pl)) := by rw [hv5]; exact (HP_4.out).far (p := ⟨w.heap.size, 3, none⟩) (fun hn a ha => by have := HP_lt.out hn a ha; show a.block ≠ w.heap.size; omega) _
  have HQ_5 : Hid (Sl v5 5 B m (JB ql)) := by rw [hv5]; exact (HQ_4.out).far (p := ⟨w.heap.size, 3, none⟩) (fun hn a ha => by have := HQ_lt.out hn a ha; show a.block ≠ w.heap.size; omega) _
  have Ha_5 : Hid (Blk v5 w.heap.size 37 #[.int .i64 i0, .int .i64 t0, .slice A n c, .slice B1 m2 d1, .int .i64 l0, .int .i64 l1, .int .i64 l2]) := by rw [hv5]; exact (Ha_4.out).set_ 3 _
  have Hb_5 : Hid (Blk v5 g1 43 #[.int .i64 ex, .int .i64 et, .int .i64 ec, .int .i64 es, .int .i64 ek, .int .i64 ea, .int .i64 eb, .int .i64 eg, .int .i64 eh]) := by rw [hv5]; exact (Hb_4.out).far (p := ⟨w.heap.size, 3, none⟩) (show g1 ≠ w.heap.size by omega) _
  have Hr_5 : Hid (Blk v5 g2 37 #[.int .i64 0, .int .i64 0, .slice none 0 0, .slice none 0 0, .int .i64 0, .int .i64 0, .int .i64 0]) := by rw [hv5]; exact (Hr_4.out).far (p := ⟨w.heap.size, 3, none⟩) (show g2 ≠ w.heap.size by omega) _
  have Hj_5 : Hid (Blk v5 v2.heap.size 71 #[.int .i64 ji, .int .i64 jd, .int .i64 jk, .int .i64 jv, .int .i64 jf]) := by rw [hv5]; exact (Hj_4.out).far (p := ⟨w.heap.size, 3, none⟩) (show v2.heap.size ≠ w.heap.size by omega) _
  have Hy_5 : Hid (Row v5 v3.heap.size 71 5 B1 m2 d1 (JB q2)) := by rw [hv5]; exact (Hy_4.out).far (p := ⟨w.heap.size, 3, none⟩) (fun a ha => by have := (Hy_4.out).ge a ha; show a.block ≠ w.heap.size; omega) _
  clear lt_a r_a0 r_a1 r_a2 r_a3 r_a4 r_a5 r_a6 z_a0 z_a1 z_a2 z_a3 z_a4 z_a5 z_a6 lt_b r_b0 r_b1 r_b2 r_b3 r_b4 r_b5 r_b6 r_b7 r_b8 lt_r r_r0 r_r1 r_r2 r_r3 r_r4 r_r5 r_r6 z_r0 z_r1 z_r2 z_r3 z_r4 z_r5 z_r6 lt_j r_j0 r_j1 r_j2 r_j3 r_j4
  clear hv5 HP_4 HQ_4 Ha_4 Hb_4 Hr_4 Hj_4 Hy_4
  have lt_a := Ha_5.out.lt
  obtain ⟨r_a0, r_a1, r_a2, r_a3, r_a4, r_a5, r_a6⟩ := bc7 Ha_5.out
  obtain ⟨z_a0, z_a1, z_a2, z_a3, z_a4, z_a5, z_a6⟩ := bf7 Ha_5.out
  have lt_b := Hb_5.out.lt
  obtain ⟨r_b0, r_b1, r_b2, r_b3, r_b4, r_b5, r_b6, r_b7, r_b8⟩ := bc9 Hb_5.out
  have lt_r := Hr_5.out.lt
  obtain ⟨r_r0, r_r1, r_r2, r_r3, r_r4, r_r5, r_r6⟩ := bc7 Hr_5.out
  obtain ⟨z_r0, z_r1, z_r2, z_r3, z_r4, z_r5, z_r6⟩ := bf7 Hr_5.out
  have lt_j := Hj_5.out.lt
  obtain ⟨r_j0, r_j1, r_j2, r_j3, r_j4⟩ := bc5 Hj_5.out
  have cc := putRI_any A n c pl jk jv v5 HP_5.out hL.out hn HA.out
  rw [hp2.out] at cc
  replace cc := cc.mono (fun _ _ h => Lib.hid h)
  have HX : ∀ e w1, RetRowB v5 106 2 (p2, o1).1.length (PR (p2, o1).1) (p2, o1).2 e w1 → RetRowB v5 106 2 n2 (PR p2) o1 e w1 := fun e w1 h => by
    have := hn2.out
    subst this
    exact h
  refine cc.mono ?_
  rintro e v6 hx
  obtain ⟨A1, c1, rfl, Rx, b6⟩ := HX _ _ hx.out
  clear HX hx cc
  have f6 := bthen f5 b6
  have z6 := b6.size
  have HP_6 := Lib.hid (HP_5.out.below b6)
  have HQ_6 := Lib.hid (HQ_5.out.below b6)
  have Ha_6 := Lib.hid (Ha_5.out.below b6)
  have Hb_6 := Lib.hid (Hb_5.out.below b6)
  have Hr_6 := Lib.hid (Hr_5.out.below b6)
  have Hj_6 := Lib.hid (Hj_5.out.below b6)
  have Hy_6 := Lib.hid (Hy_5.out.below b6)
  clear lt_a r_a0 r_a1 r_a2 r_a3 r_a4 r_a5 r_a6 z_a0 z_a1 z_a2 z_a3 z_a4 z_a5 z_a6 lt_b r_b0 r_b1 r_b2 r_b3 r_b4 r_b5 r_b6 r_b7 r_b8 lt_r r_r0 r_r1 r_r2 r_r3 r_r4 r_r5 r_r6 z_r0 z_r1 z_r2 z_r3 z_r4 z_r5 z_r6 lt_j r_j0 r_j1 r_j2 r_j3 r_j4
  clear HP_5 HQ_5 Ha_5 Hb_5 Hr_5 Hj_5 Hy_5
  have Hx_6 := Lib.hid Rx
  clear Rx
  have lt_a := Ha_6.out.lt
  obtain ⟨r_a0, r_a1, r_a2, r_a3, r_a4, r_a5, r_a6⟩ := bc7 Ha_6.out
  obtain ⟨z_a0, z_a1, z_a2, z_a3, z_a4, z_a5, z_a6⟩ := bf7 Ha_6.out
  have lt_b := Hb_6.out.lt
  obtain ⟨r_b0, r_b1, r_b2, r_b3, r_b4, r_b5, r_b6, r_b7, r_b8⟩ := bc9 Hb_6.out
  have lt_r := Hr_6.out.lt
  obtain ⟨r_r0, r_r1, r_r2, r_r3, r_r4, r_r5, r_r6⟩ := bc7 Hr_6.out
  obtain ⟨z_r0, z_r1, z_r2, z_r3, z_r4, z_r5, z_r6⟩ := bf7 Hr_6.out
  have lt_j := Hj_6.out.lt
  obtain ⟨r_j0, r_j1, r_j2, r_j3, r_j4⟩ := bc5 Hj_6.out
  go_wp21
  refine bodyPost_ret (v := .tuple #[.agg #[.int .i64 i0, .int .i64 t0, .slice A1 n2 c1, .slice B1 m2 d1, .int .i64 l0, .int .i64 l1, .int .i64 l2], .bool true]) (by simp [results, Tryz.results103, go_sem, *]) rfl ?_
  exact RetEff.of (by (repeat' (first | (with_reducible exact Below.refl _ _) | (with_reducible assumption) | (with_reducible refine Below.alloc ?_ ?_ _) | (with_reducible refine Below.drew ?_) | (with_reducible refine Below.setCell ?_ ?_ _) | (with_reducible refine bstep (by assumption) ?_ ?_) | (with_reducible exact Nat.le_refl _) | omega | (simp [*]; done) | (simp [*]; omega)))) rfl rfl (((((((((Hx_6.out).far (p := ⟨w.heap.size, 2, none⟩) (fun a ha => by have := (Hx_6.out).ge a ha; show a.block ≠ w.heap.size; omega) _).far (p := ⟨g2, 0, none⟩) (fun a ha => by have := (Hx_6.out).ge a ha; show a.block ≠ g2; omega) _).far (p := ⟨g2, 1, none⟩) (fun a ha => by have := (Hx_6.out).ge a ha; show a.block ≠ g2; omega) _).far (p := ⟨g2, 2, none⟩) (fun a ha => by have := (Hx_6.out).ge a ha; show a.block ≠ g2; omega) _).far (p := ⟨g2, 3, none⟩) (fun a ha => by have := (Hx_6.out).ge a ha; show a.block ≠ g2; omega) _).far (p := ⟨g2, 4, none⟩) (fun a ha => by have := (Hx_6.out).ge a ha; show a.block ≠ g2; omega) _).far (p := ⟨g2, 5, none⟩) (fun a ha => by have := (Hx_6.out).ge a ha; show a.block ≠ g2; omega) _).far (p := ⟨g2, 6, none⟩) (fun a ha => by have := (Hx_6.out).ge a ha; show a.block ≠ g2; omega) _).sl hn2.out (row_nil Hx_6.out) (((((((((Hy_6.out).far (p := ⟨w.heap.size, 2, none⟩) (fun a ha => by have := (Hy_6.out).ge a ha; show a.block ≠ w.heap.size; omega) _).far (p := ⟨g2, 0, none⟩) (fun a ha => by have := (Hy_6.out).ge a ha; show a.block ≠ g2; omega) _).far (p := ⟨g2, 1, none⟩) (fun a ha => by have := (Hy_6.out).ge a ha; show a.block ≠ g2; omega) _).far (p := ⟨g2, 2, none⟩) (fun a ha => by have := (Hy_6.out).ge a ha; show a.block ≠ g2; omega) _).far (p := ⟨g2, 3, none⟩) (fun a ha => by have := (Hy_6.out).ge a ha; show a.block ≠ g2; omega) _).far (p := ⟨g2, 4, none⟩) (fun a ha => by have := (Hy_6.out).ge a ha; show a.block ≠ g2; omega) _).far (p := ⟨g2, 5, none⟩) (fun a ha => by have := (Hy_6.out).ge a ha; show a.block ≠ g2; omega) _).far (p := ⟨g2, 6, none⟩) (fun a ha => by have := (Hy_6.out).ge a ha; show a.block ≠ g2; omega) _).sl hm2.out (row_nil Hy_6.out) (fun _ a ha => .inr (by have := (Hx_6.out).ge a ha; omega)) (fun _ a ha => .inr (by have := (Hy_6.out).ge a ha; omega))
end Go.Proofs.YtokklkmibjpjnaaGreat
namespace Go.Proofs.YtokklkmibjpjnaaGreat
set_option linter.unusedSimpArgs false
set_option linter.unusedVariables false
attribute [local go_sem] n_lt2 n_lt3 n_lt4 n_le2 n_le3
open Go.RowKit
attribute [local go_sem] Ext.cell Ext.frozen
/-- A state of the call's own, and another value. -/
def RetStateV (w : World) (i0 t0 l0 l1 l2 : Int) (n : Nat) (zp : List Int) (m : Nat) (zq : List Int) (x : Value) (en : Ending) (w' : World) : Prop :=
  ∃ A c B d, en = .returned (.tuple #[.agg #[.int .i64 i0, .int .i64 t0, .slice A n c, .slice B m d, .int .i64 l0, .int .i64 l1, .int .i64 l2], x]) ∧ Row w' w.heap.size 106 2 A n c zp ∧ Row w' w.heap.size 71 5 B m d zq ∧ (∀ a b, A = some a → B = some b → a.block ≠ b.block) ∧ Below w.heap.size w w'
theorem tb_dr {v w' : World} (h : Below v.drew.heap.size v.drew w') : Below v.heap.size v w' := ⟨h.os, h.tape, h.output, h.size, h.block⟩
theorem tb_al {v w' : World} {x : Obj} (h : Below (v.alloc x).heap.size (v.alloc x) w') : Below v.heap.size v w' := bthen ((Below.refl _ _).alloc (Nat.le_refl _) _) h
theorem tb_da {v w' : World} {x : Obj} (h : Below (v.alloc x).drew.heap.size (v.alloc x).drew w') : Below v.heap.size v w' := tb_al (tb_dr h)
theorem tb_ad {v w' : World} {x : Obj} (h : Below (v.drew.alloc x).heap.size (v.drew.alloc x) w') : Below v.heap.size v w' := tb_dr (tb_al h)
theorem t_drew_size (v : World) : v.heap.size = v.drew.heap.size := rfl
theorem t_below2 {w w' : World} {g : Nat} {e : TypeId} {cs : Array Value} (hb : Below w.heap.size w w') (h : Blk w g e cs) : Blk w' g e cs := h.below hb
theorem t_size_alloc (v : World) (x : Obj) : (v.alloc x).heap.size = v.heap.size + 1 := by simp
theorem hn_drew {W v : World} {s k : Nat} (h : ∀ b o, b < s → b ≠ k → v.cell? ⟨b, o, none⟩ = W.cell? ⟨b, o, none⟩) : ∀ b o, b < s → b ≠ k → v.drew.cell? ⟨b, o, none⟩ = W.cell? ⟨b, o, none⟩ := h
theorem hn_set {W v : World} {s k : Nat} (h : ∀ b o, b < s → b ≠ k → v.cell? ⟨b, o, none⟩ = W.cell? ⟨b, o, none⟩) (j : Nat) (y : Value) : ∀ b o, b < s → b ≠ k → (v.setCell ⟨k, j, none⟩ y).cell? ⟨b, o, none⟩ = W.cell? ⟨b, o, none⟩ := fun b o hb hk => (World.cell?_setCell_far _ _ _ _ (by show k ≠ b; omega)).trans (h b o hb hk)
theorem hn_set7 {W v : World} {s k : Nat} (h : ∀ b o, b < s → b ≠ k → v.cell? ⟨b, o, none⟩ = W.cell? ⟨b, o, none⟩) (y0 y1 y2 y3 y4 y5 y6 : Value) : ∀ b o, b < s → b ≠ k → (((((((v.setCell ⟨k, 0, none⟩ y0).setCell ⟨k, 1, none⟩ y1).setCell ⟨k, 2, none⟩ y2).setCell ⟨k, 3, none⟩ y3).setCell ⟨k, 4, none⟩ y4).setCell ⟨k, 5, none⟩ y5).setCell ⟨k, 6, none⟩ y6).cell? ⟨b, o, none⟩ = W.cell? ⟨b, o, none⟩ := hn_set (hn_set (hn_set (hn_set (hn_set (hn_set (hn_set h 0 y0) 1 y1) 2 y2) 3 y3) 4 y4) 5 y5) 6 y6
theorem row_far7 {w : World} {lo g E s : Nat} {A : Option Addr} {n c : Nat} {zs : List Int} (R : Row w lo E s A n c zs) (h : ∀ a, A = some a → a.block ≠ g) (y0 y1 y2 y3 y4 y5 y6 : Value) : Row (((((((w.setCell ⟨g, 0, none⟩ y0).setCell ⟨g, 1, none⟩ y1).setCell ⟨g, 2, none⟩ y2).setCell ⟨g, 3, none⟩ y3).setCell ⟨g, 4, none⟩ y4).setCell ⟨g, 5, none⟩ y5).setCell ⟨g, 6, none⟩ y6) lo E s A n c zs := ((((((R.far (p := ⟨g, 0, none⟩) h _).far (p := ⟨g, 1, none⟩) h _).far (p := ⟨g, 2, none⟩) h _).far (p := ⟨g, 3, none⟩) h _).far (p := ⟨g, 4, none⟩) h _).far (p := ⟨g, 5, none⟩) h _).far (p := ⟨g, 6, none⟩) h _
theorem sl_far7 {w : World} {g s : Nat} {A : Option Addr} {n : Nat} {zs : List Int} (R : Sl w s A n zs) (h : 0 < n → ∀ a, A = some a → a.block ≠ g) (y0 y1 y2 y3 y4 y5 y6 : Value) : Sl (((((((w.setCell ⟨g, 0, none⟩ y0).setCell ⟨g, 1, none⟩ y1).setCell ⟨g, 2, none⟩ y2).setCell ⟨g, 3, none⟩ y3).setCell ⟨g, 4, none⟩ y4).setCell ⟨g, 5, none⟩ y5).setCell ⟨g, 6, none⟩ y6) s A n zs := ((((((R.far (p := ⟨g, 0, none⟩) h _).far (p := ⟨g, 1, none⟩) h _).far (p := ⟨g, 2, none⟩) h _).far (p := ⟨g, 3, none⟩) h _).far (p := ⟨g, 4, none⟩) h _).far (p := ⟨g, 5, none⟩) h _).far (p := ⟨g, 6, none⟩) h _
theorem below_far7 {w0 w : World} {lo g : Nat} (B : Below lo w0 w) (h : lo ≤ g) (y0 y1 y2 y3 y4 y5 y6 : Value) : Below lo w0 (((((((w.setCell ⟨g, 0, none⟩ y0).setCell ⟨g, 1, none⟩ y1).setCell ⟨g, 2, none⟩ y2).setCell ⟨g, 3, none⟩ y3).setCell ⟨g, 4, none⟩ y4).setCell ⟨g, 5, none⟩ y5).setCell ⟨g, 6, none⟩ y6) := ((((((B.setCell (p := ⟨g, 0, none⟩) h _).setCell (p := ⟨g, 1, none⟩) h _).setCell (p := ⟨g, 2, none⟩) h _).setCell (p := ⟨g, 3, none⟩) h _).setCell (p := ⟨g, 4, none⟩) h _).setCell (p := ⟨g, 5, none⟩) h _).setCell (p := ⟨g, 6, none⟩) h _
set_option maxHeartbeats 1000000 in
theorem effects_any (w : World) : Calls Tryz.prog 82 #[] w fun e w' => e = .returned (.agg #[.nilFunc, .func (.func 97) #[] #[], .func (.func 99) #[] #[], .func (.func 101) #[] #[], .func (.func 103) #[] #[], .func (.func 107) #[] #[]]) ∧ Below w.heap.size w w' := by
  go_enter Tryz.func82, Tryz.ntmps82
  go_wp21
  refine bodyPost_ret (v := .agg #[.nilFunc, .func (.func 97) #[] #[], .func (.func 99) #[] #[], .func (.func 101) #[] #[], .func (.func 103) #[] #[], .func (.func 107) #[] #[]]) (by simp [results, Tryz.results82, go_sem, *]) rfl ?_
  exact ⟨rfl, by (repeat' (first | (with_reducible exact Below.refl _ _) | (with_reducible assumption) | (with_reducible refine Below.alloc ?_ ?_ _) | (with_reducible refine Below.drew ?_) | (with_reducible refine Below.setCell ?_ ?_ _) | (with_reducible refine bstep (by assumption) ?_ ?_) | (with_reducible exact Nat.le_refl _) | omega | (simp [*]; done) | (simp [*]; omega)))⟩
theorem eff1_R (A : Option Addr) (n c : Nat) (B : Option Addr) (m d : Nat) (i0 t0 l0 l1 l2 : Int) (pl : List Pr) (ql : List Jb) (ex et ec es ea eb eg eh : Int) (w : World) (hP : Sl w 2 A n (PR pl)) (hQ : Sl w 5 B m (JB ql)) (hl : pl.length = n) (hr : ql.length = m) (hn : n ≤ maxLen) (hm : m ≤ maxLen) (hA : A = none → n = 0 ∧ c = 0) (hB : B = none → m = 0 ∧ d = 0) (lo : Nat) (hPl : 0 < n → LtB A lo) (hQl : 0 < m → LtB B lo) (p2 : List Pr) (q2 : List Jb) (h2 e2 u2 : Int) (ok : Bool) (hE : Hid (effE l0 l1 l2 pl ql ex et ec es 1 ea eb eg eh = (⟨p2, q2, h2, e2, u2⟩, ok))) :
    Calls Tryz.prog 97 #[.agg #[.int .i64 i0, .int .i64 t0, .slice A n c, .slice B m d, .int .i64 l0, .int .i64 l1, .int .i64 l2], .agg #[.int .i64 ex, .int .i64 et, .int .i64 ec, .int .i64 es, .int .i64 1, .int .i64 ea, .int .i64 eb, .int .i64 eg, .int .i64 eh]] w (RetEff w lo i0 t0 p2 q2 h2 e2 u2 ok) := by
  have hE := hE.out
  unfold effE at hE
  rw [if_pos rfl] at hE
  injection hE with h1 h5
  injection h1 with h1 h2 h3 h4 h6
  subst h1 h2 h3 h4 h6 h5
  exact eff1_any A n c B m d i0 t0 l0 l1 l2 pl ql ex et ec es 1 ea eb eg eh w hP hQ hl hr hn hm hA hB lo hPl hQl
theorem eff2_R (A : Option Addr) (n c : Nat) (B : Option Addr) (m d : Nat) (i0 t0 l0 l1 l2 : Int) (pl : List Pr) (ql : List Jb) (ex et ec es ea eb eg eh : Int) (w : World) (hP : Sl w 2 A n (PR pl)) (hQ : Sl w 5 B m (JB ql)) (hl : pl.length = n) (hr : ql.length = m) (hn : n ≤ maxLen) (hm : m ≤ maxLen) (hA : A = none → n = 0 ∧ c = 0) (hB : B = none → m = 0 ∧ d = 0) (lo : Nat) (hPl : 0 < n → LtB A lo) (hQl : 0 < m → LtB B lo) (p2 : List Pr) (q2 : List Jb) (h2 e2 u2 : Int) (ok : Bool) (hE : Hid (effE l0 l1 l2 pl ql ex et ec es 2 ea eb eg eh = (⟨p2, q2, h2, e2, u2⟩, ok))) :
    Calls Tryz.prog 99 #[.agg #[.int .i64 i0, .int .i64 t0, .slice A n c, .slice B m d, .int .i64 l0, .int .i64 l1, .int .i64 l2], .agg #[.int .i64 ex, .int .i64 et, .int .i64 ec, .int .i64 es, .int .i64 2, .int .i64 ea, .int .i64 eb, .int .i64 eg, .int .i64 eh]] w (RetEff w lo i0 t0 p2 q2 h2 e2 u2 ok) := by
  have hE := hE.out
  unfold effE at hE
  rw [if_neg (by decide), if_pos rfl] at hE
  injection hE with h1 h5
  injection h1 with h1 h2 h3 h4 h6
  subst h1 h2 h3 h4 h6 h5
  exact eff2_any A n c B m d i0 t0 l0 l1 l2 pl ql ex et ec es 2 ea eb eg eh w hP hQ hl hr hn hm hA hB lo hPl hQl
theorem eff3_R (A : Option Addr) (n c : Nat) (B : Option Addr) (m d : Nat) (i0 t0 l0 l1 l2 : Int) (pl : List Pr) (ql : List Jb) (ex et ec es ea eb eg eh : Int) (w : World) (hP : Sl w 2 A n (PR pl)) (hQ : Sl w 5 B m (JB ql)) (hl : pl.length = n) (hr : ql.length = m) (hn : n ≤ maxLen) (hm : m ≤ maxLen) (hA : A = none → n = 0 ∧ c = 0) (hB : B = none → m = 0 ∧ d = 0) (lo : Nat) (hPl : 0 < n → LtB A lo) (hQl : 0 < m → LtB B lo) (p2 : List Pr) (q2 : List Jb) (h2 e2 u2 : Int) (ok : Bool) (hE : Hid (effE l0 l1 l2 pl ql ex et ec es 3 ea eb eg eh = (⟨p2, q2, h2, e2, u2⟩, ok))) :
    Calls Tryz.prog 101 #[.agg #[.int .i64 i0, .int .i64 t0, .slice A n c, .slice B m d, .int .i64 l0, .int .i64 l1, .int .i64 l2], .agg #[.int .i64 ex, .int .i64 et, .int .i64 ec, .int .i64 es, .int .i64 3, .int .i64 ea, .int .i64 eb, .int .i64 eg, .int .i64 eh]] w (RetEff w lo i0 t0 p2 q2 h2 e2 u2 ok) := by
  have hE := hE.out
  unfold effE at hE
  rw [if_neg (by decide), if_neg (by decide), if_pos rfl] at hE
  injection hE with h1 h5
  injection h1 with h1 h2 h3 h4 h6
  subst h1 h2 h3 h4 h6 h5
  exact eff3_any A n c B m d i0 t0 l0 l1 l2 pl ql ex et ec es 3 ea eb eg eh w hP hQ hl hr hn hm hA hB lo hPl hQl
theorem eff4_R (A : Option Addr) (n c : Nat) (B : Option Addr) (m d : Nat) (i0 t0 l0 l1 l2 : Int) (pl : List Pr) (ql : List Jb) (ex et ec es ea eb eg eh : Int) (w : World) (hP : Sl w 2 A n (PR pl)) (hQ : Sl w 5 B m (JB ql)) (hl : pl.length = n) (hr : ql.length = m) (hn : n ≤ maxLen) (hm : m ≤ maxLen) (hA : A = none → n = 0 ∧ c = 0) (hB : B = none → m = 0 ∧ d = 0) (lo : Nat) (hPl : 0 < n → LtB A lo) (hQl : 0 < m → LtB B lo) (p2 : List Pr) (q2 : List Jb) (h2 e2 u2 : Int) (ok : Bool) (hE : Hid (effE l0 l1 l2 pl ql ex et ec es 4 ea eb eg eh = (⟨p2, q2, h2, e2, u2⟩, ok))) :
    Calls Tryz.prog 103 #[.agg #[.int .i64 i0, .int .i64 t0, .slice A n c, .slice B m d, .int .i64 l0, .int .i64 l1, .int .i64 l2], .agg #[.int .i64 ex, .int .i64 et, .int .i64 ec, .int .i64 es, .int .i64 4, .int .i64 ea, .int .i64 eb, .int .i64 eg, .int .i64 eh]] w (RetEff w lo i0 t0 p2 q2 h2 e2 u2 ok) := by
  have hE := hE.out
  unfold effE at hE
  rw [if_neg (by decide), if_neg (by decide), if_neg (by decide), if_pos rfl] at hE
  cases hf : firesB l0 l1 l2 ql et ec 4 ea eb with
  | false =>
    rw [if_neg (by rw [hf]; decide)] at hE
    injection hE with h1 h5
    injection h1 with h1 h2 h3 h4 h6
    subst h1 h2 h3 h4 h6 h5
    exact eff4_no A n c B m d i0 t0 l0 l1 l2 pl ql ex et ec es 4 ea eb eg eh w hP hQ hl hr hn hm hA hB lo hPl hQl pl ql l0 l1 l2 (Lib.hid hf)
  | true =>
    rw [if_pos hf] at hE
    injection hE with h1 h5
    injection h1 with h1 h2 h3 h4 h6
    subst h1 h2 h3 h4 h6 h5
    exact eff4_yes A n c B m d i0 t0 l0 l1 l2 pl ql ex et ec es 4 ea eb eg eh w hP hQ hl hr hn hm hA hB lo hPl hQl _ _ _ _ (putR pl (jobAtV ql ea).1.k (jobAtV ql ea).1.v).2 (firedR ql (jobAtV ql ea).1.i ex).2 (jobAtV ql ea).1.i (jobAtV ql ea).1.d (jobAtV ql ea).1.k (jobAtV ql ea).1.v (jobAtV ql ea).1.f (jobAtV ql ea).2 (Lib.hid hf) (Lib.hid rfl) (Lib.hid rfl) (Lib.hid rfl) (Lib.hid rfl) (Lib.hid rfl)
theorem eff5_R (A : Option Addr) (n c : Nat) (B : Option Addr) (m d : Nat) (i0 t0 l0 l1 l2 : Int) (pl : List Pr) (ql : List Jb) (ex et ec es ea eb eg eh : Int) (w : World) (hP : Sl w 2 A n (PR pl)) (hQ : Sl w 5 B m (JB ql)) (hl : pl.length = n) (hr : ql.length = m) (hn : n ≤ maxLen) (hm : m ≤ maxLen) (hA : A = none → n = 0 ∧ c = 0) (hB : B = none → m = 0 ∧ d = 0) (lo : Nat) (hPl : 0 < n → LtB A lo) (hQl : 0 < m → LtB B lo) (p2 : List Pr) (q2 : List Jb) (h2 e2 u2 : Int) (ok : Bool) (hE : Hid (effE l0 l1 l2 pl ql ex et ec es 5 ea eb eg eh = (⟨p2, q2, h2, e2, u2⟩, ok))) :
    Calls Tryz.prog 107 #[.agg #[.int .i64 i0, .int .i64 t0, .slice A n c, .slice B m d, .int .i64 l0, .int .i64 l1, .int .i64 l2], .agg #[.int .i64 ex, .int .i64 et, .int .i64 ec, .int .i64 es, .int .i64 5, .int .i64 ea, .int .i64 eb, .int .i64 eg, .int .i64 eh]] w (RetEff w lo i0 t0 p2 q2 h2 e2 u2 ok) := by
  have hE := hE.out
  unfold effE at hE
  rw [if_neg (by decide), if_neg (by decide), if_neg (by decide), if_neg (by decide)] at hE
  injection hE with h1 h5
  injection h1 with h1 h2 h3 h4 h6
  subst h1 h2 h3 h4 h6 h5
  exact eff5_any A n c B m d i0 t0 l0 l1 l2 pl ql ex et ec es 5 ea eb eg eh w hP hQ hl hr hn hm hA hB lo hPl hQl
theorem RetStateV.mk {w w' : World} {i0 t0 l0 l1 l2 : Int} {n m n1 m1 : Nat} {zp zq : List Int} {x : Value} {A B : Option Addr} {c d : Nat} (h1 : n = n1) (h2 : m = m1) (RP : Row w' w.heap.size 106 2 A n1 c zp) (RQ : Row w' w.heap.size 71 5 B m1 d zq) (h : ∀ a b, A = some a → B = some b → a.block ≠ b.block) (b : Below w.heap.size w w') :
    RetStateV w i0 t0 l0 l1 l2 n zp m zq x (.returned (.tuple #[.agg #[.int .i64 i0, .int .i64 t0, .slice A n1 c, .slice B m1 d, .int .i64 l0, .int .i64 l1, .int .i64 l2], x])) w' := by
  subst h1 h2
  exact ⟨A, c, B, d, rfl, RP, RQ, h, b⟩
end Go.Proofs.YtokklkmibjpjnaaGreat
namespace Go.Proofs.YtokklkmibjpjnaaGreat
set_option linter.unusedSimpArgs false
set_option linter.unusedVariables false
attribute [local go_sem] n_lt2 n_lt3 n_lt4 n_le2 n_le3
open Go.RowKit
attribute [local go_sem] Ext.cell Ext.frozen
set_option maxRecDepth 100000 in
set_option maxHeartbeats 8000000 in
theorem applied_yes1 (A : Option Addr) (n c : Nat) (B : Option Addr) (m d : Nat) (i0 t0 l0 l1 l2 : Int) (pl : List Pr) (ql : List Jb) (ex et ec es ea eb eg eh : Int) (w : World) (hP : Sl w 2 A n (PR pl)) (hQ : Sl w 5 B m (JB ql)) (hl : pl.length = n) (hr : ql.length = m) (hn : n ≤ 1000) (hm : m ≤ 1000) (hA : A = none → n = 0 ∧ c = 0) (hB : B = none → m = 0 ∧ d = 0) (p2 : List Pr) (q2 : List Jb) (h2 e2 u2 : Int) (hp2 : p2.length ≤ 1000) (hq2 : q2.length ≤ 1000) (hE : Hid (effE l0 l1 l2 pl ql ex et ec es 1 ea eb eg eh = (⟨p2, q2, h2, e2, u2⟩, true))) :
    Calls Tryz.prog 43 #[.agg #[.int .i64 i0, .int .i64 t0, .slice A n c, .slice B m d, .int .i64 l0, .int .i64 l1, .int .i64 l2], .agg #[.int .i64 ex, .int .i64 et, .int .i64 ec, .int .i64 es, .int .i64 1, .int .i64 ea, .int .i64 eb, .int .i64 eg, .int .i64 eh]] w (RetStateV w ex et h2 e2 u2 p2.length (PR p2) q2.length (JB q2) (.int .i64 1)) := by
  have HP := Lib.hid hP
  have HQ := Lib.hid hQ
  have HA := Lib.hid hA
  have HB := Lib.hid hB
  have hL := Lib.hid hl
  have hR := Lib.hid hr
  clear hP hQ hA hB hl hr
  go_enter Tryz.func43, Tryz.ntmps43
  go_upto_region 1 with fail
  obtain ⟨v0, hv0⟩ : ∃ x : World, x = (((w.alloc (.cells #[.int .i64 i0, .int .i64 t0, .slice A n c, .slice B m d, .int .i64 l0, .int .i64 l1, .int .i64 l2] 37)).alloc (.cells #[.int .i64 ex, .int .i64 et, .int .i64 ec, .int .i64 es, .int .i64 1, .int .i64 ea, .int .i64 eb, .int .i64 eg, .int .i64 eh] 43)).alloc (.cells #[.int .i64 0, .int .i64 0, .slice none 0 0, .slice none 0 0, .int .i64 0, .int .i64 0, .int .i64 0] 37)) := ⟨_, rfl⟩
  rw [← hv0]
  have f0 : Below w.heap.size w v0 := by rw [hv0]; (repeat' (first | (with_reducible exact Below.refl _ _) | (with_reducible assumption) | (with_reducible refine Below.alloc ?_ ?_ _) | (with_reducible refine Below.drew ?_) | (with_reducible refine Below.setCell ?_ ?_ _) | (with_reducible refine bstep (by assumption) ?_ ?_) | (with_reducible exact Nat.le_refl _) | omega | (simp [*]; done) | (simp [*]; omega)))
  have z0 : w.heap.size + 3 ≤ v0.heap.size := by rw [hv0]; simp [size_set]
  have HP_0 := Lib.hid (HP.out.below f0)
  have HP_lt := Lib.hid (fun hn => HP.out.lt hn)
  have HQ_0 := Lib.hid (HQ.out.below f0)
  have HQ_lt := Lib.hid (fun hn => HQ.out.lt hn)
  have Ha_0 : Hid (Blk v0 w.heap.size 37 #[.int .i64 i0, .int .i64 t0, .slice A n c, .slice B m d, .int .i64 l0, .int .i64 l1, .int .i64 l2]) := by rw [hv0]; exact ((Blk.new_at _ _ _ _ (by simp)).alloc _).alloc _
  have Hb_0 : Hid (Blk v0 (w.heap.size + 1) 43 #[.int .i64 ex, .int .i64 et, .int .i64 ec, .int .i64 es, .int .i64 1, .int .i64 ea, .int .i64 eb, .int .i64 eg, .int .i64 eh]) := by rw [hv0]; exact (Blk.new_at _ _ _ _ (by simp)).alloc _
  have Hr_0 : Hid (Blk v0 (w.heap.size + 1 + 1) 37 #[.int .i64 0, .int .i64 0, .slice none 0 0, .slice none 0 0, .int .i64 0, .int .i64 0, .int .i64 0]) := by rw [hv0]; exact Blk.new_at _ _ _ _ (by simp)
  clear hv0
  generalize hg2 : w.heap.size + 1 + 1 = g2 at *
  generalize hg1 : w.heap.size + 1 = g1 at *
  have lg1 : w.heap.size < g1 := by omega
  have lg2 : g1 < g2 := by omega
  have lgz : g2 < v0.heap.size := by omega
  have nq1x0 : ¬ g1 = w.heap.size := by omega
  have nq0x1 : ¬ w.heap.size = g1 := by omega
  have nq2x0 : ¬ g2 = w.heap.size := by omega
  have nq0x2 : ¬ w.heap.size = g2 := by omega
  have nq2x1 : ¬ g2 = g1 := by omega
  have nq1x2 : ¬ g1 = g2 := by omega
  clear hg1 hg2
  have lt_a := Ha_0.out.lt
  obtain ⟨r_a0, r_a1, r_a2, r_a3, r_a4, r_a5, r_a6⟩ := bc7 Ha_0.out
  have lt_b := Hb_0.out.lt
  obtain ⟨r_b0, r_b1, r_b2, r_b3, r_b4, r_b5, r_b6, r_b7, r_b8⟩ := bc9 Hb_0.out
  go_cut [6, 7] (fun pv ov wx => ∃ (g : Nat) (A1 : Option Addr) (n1 c1 : Nat) (B1 : Option Addr) (m1 d1 : Nat) (x0 x1 x2 : Int), pv = .pointer (some ⟨g, 0, none⟩) ∧ ov = .bool true ∧ g2 < g ∧ v0.heap.size ≤ g ∧ Hid (Blk wx g 37 #[.int .i64 i0, .int .i64 t0, .slice A1 n1 c1, .slice B1 m1 d1, .int .i64 x0, .int .i64 x1, .int .i64 x2]) ∧ Hid (Below v0.heap.size v0 wx) ∧ Hid (x0 = h2 ∧ x1 = e2 ∧ x2 = u2) ∧ Hid (Sl wx 2 A1 n1 (PR p2)) ∧ Hid (p2.length = n1) ∧ Hid (A1 = none → n1 = 0 ∧ c1 = 0) ∧ Hid (Sl wx 5 B1 m1 (JB q2)) ∧ Hid (q2.length = m1) ∧ Hid (B1 = none → m1 = 0 ∧ d1 = 0) ∧ Hid (0 < n1 → ∀ a, A1 = some a → a.block ≠ g) ∧ Hid (0 < m1 → ∀ a, B1 = some a → a.block ≠ g))
  case first =>
    have hnm : n ≤ maxLen := by unfold maxLen; omega
    have hmm : m ≤ maxLen := by unfold maxLen; omega
    have hS0 : ∀ b o, b < v0.heap.size → v0.cell? ⟨b, o, none⟩ = v0.cell? ⟨b, o, none⟩ := fun b o hb => rfl
    have ix : ∀ wz : World, (Instr.index 116 (.agg #[.nilFunc, .func (.func 97) #[] #[], .func (.func 99) #[] #[], .func (.func 101) #[] #[], .func (.func 103) #[] #[], .func (.func 107) #[] #[]]) (.int .i64 1)).run Tryz.prog wz = .ok (.func (.func 97) #[] #[]) wz := fun _ => by kernel_rfl
    go_region_held_law (fun w' => ∀ b o, b < v0.heap.size → w'.cell? ⟨b, o, none⟩ = v0.cell? ⟨b, o, none⟩) (repeat' (first | with_reducible assumption | with_reducible exact Nat.le_refl _ | with_reducible exact hS0 | with_reducible refine hl_drew ?_ | with_reducible refine hl_alloc ?_ ?_ _ | with_reducible refine hl_set7 ?_ ?_ _ _ _ _ _ _ _)) (first | (go_at_call 82; refine (effects_any _).mono ?_; rintro e u1 ⟨rfl, b1⟩; (first | (have KB : Blk u1 v0.heap.size 37 #[.int .i64 0, .int .i64 0, .slice none 0 0, .slice none 0 0, .int .i64 0, .int .i64 0, .int .i64 0] := by with_reducible exact t_below2 b1 (Blk.new_at _ _ _ _ rfl)) | (have KB : Blk u1 v0.heap.size 37 #[.int .i64 0, .int .i64 0, .slice none 0 0, .slice none 0 0, .int .i64 0, .int .i64 0, .int .i64 0] := by with_reducible exact t_below2 b1 (Blk.drew (Blk.new_at _ _ _ _ rfl))) | (have KB : Blk u1 v0.heap.size 37 #[.int .i64 0, .int .i64 0, .slice none 0 0, .slice none 0 0, .int .i64 0, .int .i64 0, .int .i64 0] := by with_reducible exact t_below2 b1 (Blk.new_at _ _ _ _ (t_drew_size _))) | (replace KB := t_below2 b1 KB) | (replace KB := t_below2 b1 (Blk.drew KB)) | skip); have E1 : Below v0.heap.size v0 u1 := (by first | with_reducible exact b1 | with_reducible exact tb_dr b1 | with_reducible exact tb_al b1 | with_reducible exact tb_da b1 | with_reducible exact tb_ad b1); have H1 := E1; have y1 := H1.size; have hS1 : ∀ b o, b < v0.heap.size → u1.cell? ⟨b, o, none⟩ = v0.cell? ⟨b, o, none⟩ := fun b o hb => H1.cell (p := ⟨b, o, none⟩) hb; have HPu := Lib.hid (HP_0.out.below E1); have HQu := Lib.hid (HQ_0.out.below E1)) | (go_at_call 97; refine (eff1_R A n c B m d i0 t0 l0 l1 l2 pl ql ex et ec es ea eb eg eh _ (by first | with_reducible exact HPu.out | with_reducible exact Sl.alloc HPu.out _) (by first | with_reducible exact HQu.out | with_reducible exact Sl.alloc HQu.out _) hL.out hR.out hnm hmm HA.out HB.out w.heap.size HP_lt.out HQ_lt.out p2 q2 h2 e2 u2 true hE).mono ?_; rintro e u2_ ⟨A1, n1, c1, B1, m1, d1, x0, x1, x2, rfl, b2, hx⟩; obtain ⟨hx0, hx1, hx2, hP1, hl1, hA1, hQ1, hr1, hB1, hL1, hL2⟩ := hx rfl; (first | (have KB : Blk u2_ u1.heap.size 37 #[.int .i64 0, .int .i64 0, .slice none 0 0, .slice none 0 0, .int .i64 0, .int .i64 0, .int .i64 0] := by with_reducible exact t_below2 b2 (Blk.new_at _ _ _ _ rfl)) | (have KB : Blk u2_ u1.heap.size 37 #[.int .i64 0, .int .i64 0, .slice none 0 0, .slice none 0 0, .int .i64 0, .int .i64 0, .int .i64 0] := by with_reducible exact t_below2 b2 (Blk.drew (Blk.new_at _ _ _ _ rfl))) | (have KB : Blk u2_ u1.heap.size 37 #[.int .i64 0, .int .i64 0, .slice none 0 0, .slice none 0 0, .int .i64 0, .int .i64 0, .int .i64 0] := by with_reducible exact t_below2 b2 (Blk.new_at _ _ _ _ (t_drew_size _))) | (replace KB := t_below2 b2 KB) | (replace KB := t_below2 b2 (Blk.drew KB)) | skip); have E2 : Below u1.heap.size u1 u2_ := (by first | with_reducible exact b2 | with_reducible exact tb_dr b2 | with_reducible exact tb_al b2 | with_reducible exact tb_da b2 | with_reducible exact tb_ad b2); have H2 := bthen H1 E2; have y2 := H2.size; have hS2 : ∀ b o, b < v0.heap.size → u2_.cell? ⟨b, o, none⟩ = v0.cell? ⟨b, o, none⟩ := fun b o hb => H2.cell (p := ⟨b, o, none⟩) hb; (try (have kb0 := KB.cell 0)); (try (have kf0 := KB.frozen 0)); (try (have kb1 := KB.cell 1)); (try (have kf1 := KB.frozen 1)); (try (have kb2 := KB.cell 2)); (try (have kf2 := KB.frozen 2)); (try (have kb3 := KB.cell 3)); (try (have kf3 := KB.frozen 3)); (try (have kb4 := KB.cell 4)); (try (have kf4 := KB.frozen 4)); (try (have kb5 := KB.cell 5)); (try (have kf5 := KB.frozen 5)); (try (have kb6 := KB.cell 6)); (try (have kf6 := KB.frozen 6)); (try (have kbl := KB.lt))))
    all_goals
      have s1 := b1.size
      have s2 := b2.size
      (try simp only [t_size_alloc, ← t_drew_size] at s1)
      (try simp only [t_size_alloc, ← t_drew_size] at s2)
      go_wp2_with fail
      go_meet
      first
        | (with_reducible refine ⟨u2_.heap.size, A1, n1, c1, B1, m1, d1, h2, e2, u2, rfl, rfl, ?_, ?_, ?_, ?_, ?_, ?_, ?_, ?_, ?_, ?_, ?_, ?_, ?_⟩
           · omega
           · omega
           · exact Lib.hid (Blk.new_at _ _ _ _ rfl)
           · exact Lib.hid (H2.alloc y2 _)
           · exact Lib.hid ⟨rfl, rfl, rfl⟩
           · exact Lib.hid (hP1.alloc _)
           · exact Lib.hid hl1
           · exact Lib.hid hA1
           · exact Lib.hid (hQ1.alloc _)
           · exact Lib.hid hr1
           · exact Lib.hid hB1
           · exact (Lib.hid (fun h0 a ha => by have hA := (hP1).lt h0 a ha; have hB := hL1 h0 a ha; have hC := lgz; (try simp only [t_size_alloc] at hB); omega))
           · exact (Lib.hid (fun h0 a ha => by have hA := (hQ1).lt h0 a ha; have hB := hL2 h0 a ha; have hC := lgz; (try simp only [t_size_alloc] at hB); omega)))
        | (with_reducible refine ⟨u1.heap.size, A1, n1, c1, B1, m1, d1, h2, e2, u2, rfl, rfl, ?_, ?_, ?_, ?_, ?_, ?_, ?_, ?_, ?_, ?_, ?_, ?_, ?_⟩
           · omega
           · omega
           · exact Lib.hid (((((((KB.set_ 0 _).set_ 1 _).set_ 2 _).set_ 3 _).set_ 4 _).set_ 5 _).set_ 6 _)
           · exact Lib.hid (below_far7 H2 (by omega) _ _ _ _ _ _ _)
           · exact Lib.hid ⟨rfl, rfl, rfl⟩
           · exact Lib.hid (sl_far7 hP1 (fun h0 a ha => by have hA := (hP1).lt h0 a ha; have hB := hL1 h0 a ha; have hC := lgz; (try simp only [t_size_alloc] at hB); omega) _ _ _ _ _ _ _)
           · exact Lib.hid hl1
           · exact Lib.hid hA1
           · exact Lib.hid (sl_far7 hQ1 (fun h0 a ha => by have hA := (hQ1).lt h0 a ha; have hB := hL2 h0 a ha; have hC := lgz; (try simp only [t_size_alloc] at hB); omega) _ _ _ _ _ _ _)
           · exact Lib.hid hr1
           · exact Lib.hid hB1
           · exact (Lib.hid (fun h0 a ha => by have hA := (hP1).lt h0 a ha; have hB := hL1 h0 a ha; have hC := lgz; (try simp only [t_size_alloc] at hB); omega))
           · exact (Lib.hid (fun h0 a ha => by have hA := (hQ1).lt h0 a ha; have hB := hL2 h0 a ha; have hC := lgz; (try simp only [t_size_alloc] at hB); omega)))
        | (with_reducible refine ⟨v0.heap.size, A1, n1, c1, B1, m1, d1, h2, e2, u2, rfl, rfl, ?_, ?_, ?_, ?_, ?_, ?_, ?_, ?_, ?_, ?_, ?_, ?_, ?_⟩
           · omega
           · omega
           · exact Lib.hid (((((((KB.set_ 0 _).set_ 1 _).set_ 2 _).set_ 3 _).set_ 4 _).set_ 5 _).set_ 6 _)
           · exact Lib.hid (below_far7 H2 (by omega) _ _ _ _ _ _ _)
           · exact Lib.hid ⟨rfl, rfl, rfl⟩
           · exact Lib.hid (sl_far7 hP1 (fun h0 a ha => by have hA := (hP1).lt h0 a ha; have hB := hL1 h0 a ha; have hC := lgz; (try simp only [t_size_alloc] at hB); omega) _ _ _ _ _ _ _)
           · exact Lib.hid hl1
           · exact Lib.hid hA1
           · exact Lib.hid (sl_far7 hQ1 (fun h0 a ha => by have hA := (hQ1).lt h0 a ha; have hB := hL2 h0 a ha; have hC := lgz; (try simp only [t_size_alloc] at hB); omega) _ _ _ _ _ _ _)
           · exact Lib.hid hr1
           · exact Lib.hid hB1
           · exact (Lib.hid (fun h0 a ha => by have hA := (hP1).lt h0 a ha; have hB := hL1 h0 a ha; have hC := lgz; (try simp only [t_size_alloc] at hB); omega))
           · exact (Lib.hid (fun h0 a ha => by have hA := (hQ1).lt h0 a ha; have hB := hL2 h0 a ha; have hC := lgz; (try simp only [t_size_alloc] at hB); omega)))
  case rest =>
    obtain ⟨g, A1, n1, c1, B1, m1, d1, x0, x1, x2, rfl, rfl, hg2, hgz, KX, E1, HX, HP1, HL1, HA1, HQ1, HR1, HB1, HN1, HN2⟩ := hcut
    rename World => v1
    obtain ⟨hx0, hx1, hx2⟩ := HX.out
    subst hx0 hx1 hx2
    clear HX
    clear lt_a r_a0 r_a1 r_a2 r_a3 r_a4 r_a5 r_a6 lt_b r_b0 r_b1 r_b2 r_b3 r_b4 r_b5 r_b6 r_b7 r_b8
    have F1 := Lib.hid (bthen f0 E1.out)
    have y1 := E1.out.size
    have Kb := Lib.hid (Hb_0.out.below E1.out)
    have Kr := Lib.hid (Hr_0.out.below E1.out)
    clear Ha_0 Hb_0 Hr_0 HP_0 HQ_0 HP_lt HQ_lt HP HQ HA HB hL hR
    go_upto_region 4 with fail
    have lt_b := Kb.out.lt
    obtain ⟨r_b0, r_b1, r_b2, r_b3, r_b4, r_b5, r_b6, r_b7, r_b8⟩ := bc9 Kb.out
    have lt_x := KX.out.lt
    have r_x0 : v1.cell? ⟨g, 0, none⟩ = some (.int .i64 i0) := KX.out.cell 0
    have z_x0 := KX.out.frozen 0
    have r_x1 : v1.cell? ⟨g, 1, none⟩ = some (.int .i64 t0) := KX.out.cell 1
    have z_x1 := KX.out.frozen 1
    have r_x2 : v1.cell? ⟨g, 2, none⟩ = some (.slice A1 n1 c1) := KX.out.cell 2
    have z_x2 := KX.out.frozen 2
    have r_x3 : v1.cell? ⟨g, 3, none⟩ = some (.slice B1 m1 d1) := KX.out.cell 3
    have z_x3 := KX.out.frozen 3
    have r_x4 : v1.cell? ⟨g, 4, none⟩ = some (.int .i64 x0) := KX.out.cell 4
    have z_x4 := KX.out.frozen 4
    have r_x5 : v1.cell? ⟨g, 5, none⟩ = some (.int .i64 x1) := KX.out.cell 5
    have z_x5 := KX.out.frozen 5
    have r_x6 : v1.cell? ⟨g, 6, none⟩ = some (.int .i64 x2) := KX.out.cell 6
    have z_x6 := KX.out.frozen 6
    have ngb : ¬ g = g1 := by omega
    have nbg : ¬ g1 = g := by omega
    go_cut [] (fun wx => Hid (Blk wx g 37 #[.int .i64 ex, .int .i64 et, .slice A1 n1 c1, .slice B1 m1 d1, .int .i64 x0, .int .i64 x1, .int .i64 x2]) ∧ Hid (Below w.heap.size w wx) ∧ Hid (Blk wx g1 43 #[.int .i64 ex, .int .i64 et, .int .i64 ec, .int .i64 es, .int .i64 1, .int .i64 ea, .int .i64 eb, .int .i64 eg, .int .i64 eh]) ∧ Hid (Blk wx g2 37 #[.int .i64 0, .int .i64 0, .slice none 0 0, .slice none 0 0, .int .i64 0, .int .i64 0, .int .i64 0]) ∧ Hid (Sl wx 2 A1 n1 (PR p2)) ∧ Hid (Sl wx 5 B1 m1 (JB q2)))
    case first =>
      have hS0 : ∀ b o, b < g → v1.cell? ⟨b, o, none⟩ = v1.cell? ⟨b, o, none⟩ := fun b o hb => rfl
      have lbg : g1 < g := by omega
      go_region_held_law (fun w' => ∀ b o, b < g → w'.cell? ⟨b, o, none⟩ = v1.cell? ⟨b, o, none⟩) (repeat' (first | with_reducible assumption | with_reducible exact Nat.le_refl _ | with_reducible exact hS0 | with_reducible refine hl_drew ?_ | with_reducible refine hl_set ?_ ?_ _ _)) (fail)
      all_goals
        go_wp2_with fail
        go_meet
        first
          | exact ⟨Lib.hid (((KX.out.drew).set_ 0 _).set_ 1 _), Lib.hid (((F1.out.drew).setCell (p := ⟨g, 0, none⟩) (by show w.heap.size ≤ g; omega) _).setCell (p := ⟨g, 1, none⟩) (by show w.heap.size ≤ g; omega) _), Lib.hid (((Kb.out.drew).far (p := ⟨g, 0, none⟩) (show g1 ≠ g by omega) _).far (p := ⟨g, 1, none⟩) (show g1 ≠ g by omega) _), Lib.hid (((Kr.out.drew).far (p := ⟨g, 0, none⟩) (show g2 ≠ g by omega) _).far (p := ⟨g, 1, none⟩) (show g2 ≠ g by omega) _), Lib.hid (((HP1.out.drew).far (p := ⟨g, 0, none⟩) (fun h0 a ha => HN1.out h0 a ha) _).far (p := ⟨g, 1, none⟩) (fun h0 a ha => HN1.out h0 a ha) _), Lib.hid (((HQ1.out.drew).far (p := ⟨g, 0, none⟩) (fun h0 a ha => HN2.out h0 a ha) _).far (p := ⟨g, 1, none⟩) (fun h0 a ha => HN2.out h0 a ha) _)⟩
          | exact ⟨Lib.hid (((KX.out.drew).set_ 1 _).set_ 0 _), Lib.hid (((F1.out.drew).setCell (p := ⟨g, 1, none⟩) (by show w.heap.size ≤ g; omega) _).setCell (p := ⟨g, 0, none⟩) (by show w.heap.size ≤ g; omega) _), Lib.hid (((Kb.out.drew).far (p := ⟨g, 1, none⟩) (show g1 ≠ g by omega) _).far (p := ⟨g, 0, none⟩) (show g1 ≠ g by omega) _), Lib.hid (((Kr.out.drew).far (p := ⟨g, 1, none⟩) (show g2 ≠ g by omega) _).far (p := ⟨g, 0, none⟩) (show g2 ≠ g by omega) _), Lib.hid (((HP1.out.drew).far (p := ⟨g, 1, none⟩) (fun h0 a ha => HN1.out h0 a ha) _).far (p := ⟨g, 0, none⟩) (fun h0 a ha => HN1.out h0 a ha) _), Lib.hid (((HQ1.out.drew).far (p := ⟨g, 1, none⟩) (fun h0 a ha => HN2.out h0 a ha) _).far (p := ⟨g, 0, none⟩) (fun h0 a ha => HN2.out h0 a ha) _)⟩
    case rest =>
      clear lt_b r_b0 r_b1 r_b2 r_b3 r_b4 r_b5 r_b6 r_b7 r_b8
      clear lt_x r_x0 z_x0 r_x1 z_x1 r_x2 z_x2 r_x3 z_x3 r_x4 z_x4 r_x5 z_x5 r_x6 z_x6
      obtain ⟨KX2, F2, Kb2, Kr2, HP2, HQ2⟩ := hcut
      rename World => v2
      clear KX
      clear Kb Kr HP1 HQ1
      go_upto_region 7 with fail
      have ngr : ¬ g = g2 := by omega
      have nbr : ¬ g1 = g2 := by omega
      have lt_b := Kb2.out.lt
      obtain ⟨r_b0, r_b1, r_b2, r_b3, r_b4, r_b5, r_b6, r_b7, r_b8⟩ := bc9 Kb2.out
      have lt_x := KX2.out.lt
      have r_x0 : v2.cell? ⟨g, 0, none⟩ = some (.int .i64 ex) := KX2.out.cell 0
      have z_x0 := KX2.out.frozen 0
      have r_x1 : v2.cell? ⟨g, 1, none⟩ = some (.int .i64 et) := KX2.out.cell 1
      have z_x1 := KX2.out.frozen 1
      have r_x2 : v2.cell? ⟨g, 2, none⟩ = some (.slice A1 n1 c1) := KX2.out.cell 2
      have z_x2 := KX2.out.frozen 2
      have r_x3 : v2.cell? ⟨g, 3, none⟩ = some (.slice B1 m1 d1) := KX2.out.cell 3
      have z_x3 := KX2.out.frozen 3
      have r_x4 : v2.cell? ⟨g, 4, none⟩ = some (.int .i64 x0) := KX2.out.cell 4
      have z_x4 := KX2.out.frozen 4
      have r_x5 : v2.cell? ⟨g, 5, none⟩ = some (.int .i64 x1) := KX2.out.cell 5
      have z_x5 := KX2.out.frozen 5
      have r_x6 : v2.cell? ⟨g, 6, none⟩ = some (.int .i64 x2) := KX2.out.cell 6
      have z_x6 := KX2.out.frozen 6
      have lt_r := Kr2.out.lt
      have r_r0 : v2.cell? ⟨g2, 0, none⟩ = some (.int .i64 0) := Kr2.out.cell 0
      have z_r0 := Kr2.out.frozen 0
      have r_r1 : v2.cell? ⟨g2, 1, none⟩ = some (.int .i64 0) := Kr2.out.cell 1
      have z_r1 := Kr2.out.frozen 1
      have r_r2 : v2.cell? ⟨g2, 2, none⟩ = some (.slice none 0 0) := Kr2.out.cell 2
      have z_r2 := Kr2.out.frozen 2
      have r_r3 : v2.cell? ⟨g2, 3, none⟩ = some (.slice none 0 0) := Kr2.out.cell 3
      have z_r3 := Kr2.out.frozen 3
      have r_r4 : v2.cell? ⟨g2, 4, none⟩ = some (.int .i64 0) := Kr2.out.cell 4
      have z_r4 := Kr2.out.frozen 4
      have r_r5 : v2.cell? ⟨g2, 5, none⟩ = some (.int .i64 0) := Kr2.out.cell 5
      have z_r5 := Kr2.out.frozen 5
      have r_r6 : v2.cell? ⟨g2, 6, none⟩ = some (.int .i64 0) := Kr2.out.cell 6
      have z_r6 := Kr2.out.frozen 6
      have hS0 : ∀ b o, b < v2.heap.size → b ≠ g2 → v2.cell? ⟨b, o, none⟩ = v2.cell? ⟨b, o, none⟩ := fun b o hb hk => rfl
      go_region_held_law (fun w' => ∀ b o, b < v2.heap.size → b ≠ g2 → w'.cell? ⟨b, o, none⟩ = v2.cell? ⟨b, o, none⟩) (repeat' (first | with_reducible assumption | with_reducible exact hS0 | with_reducible refine hn_drew ?_ | with_reducible refine hn_set7 ?_ _ _ _ _ _ _ _)) (first | (go_at_call 42; refine (copyState_any A1 n1 c1 B1 m1 d1 ex et x0 x1 x2 p2 q2 _ (by first | with_reducible exact HP2.out | with_reducible exact Sl.drew HP2.out) (by first | with_reducible exact HQ2.out | with_reducible exact Sl.drew HQ2.out) HL1.out HR1.out (by have := HL1.out; omega) (by have := HR1.out; omega) HA1.out HB1.out).mono ?_; rintro e v3 ⟨A5, c5, B5, d5, rfl, R5, R6, hap, b3⟩; have E3 : Below v2.heap.size v2 v3 := (by first | with_reducible exact b3 | with_reducible exact tb_dr b3); have hS3 : ∀ b o, b < v2.heap.size → b ≠ g2 → v3.cell? ⟨b, o, none⟩ = v2.cell? ⟨b, o, none⟩ := fun b o hb hk => E3.cell (p := ⟨b, o, none⟩) hb; have Kr3 := Kr2.out.below E3; have yb0 := Kr3.cell 0; have yf0 := Kr3.frozen 0; have yb1 := Kr3.cell 1; have yf1 := Kr3.frozen 1; have yb2 := Kr3.cell 2; have yf2 := Kr3.frozen 2; have yb3 := Kr3.cell 3; have yf3 := Kr3.frozen 3; have yb4 := Kr3.cell 4; have yf4 := Kr3.frozen 4; have yb5 := Kr3.cell 5; have yf5 := Kr3.frozen 5; have yb6 := Kr3.cell 6; have yf6 := Kr3.frozen 6; have yl := Kr3.lt))
      all_goals
        go_wp21
        refine bodyPost_ret (v := .tuple #[.agg #[.int .i64 ex, .int .i64 et, .slice A5 n1 c5, .slice B5 m1 d5, .int .i64 x0, .int .i64 x1, .int .i64 x2], .int .i64 1]) (by simp [results, Tryz.results43, go_sem, *]) rfl ?_
        have h5 := R5.mono (show w.heap.size ≤ _ from F2.out.size)
        have h6 := R6.mono (show w.heap.size ≤ _ from F2.out.size)
        have n5 : ∀ a, A5 = some a → a.block ≠ g2 := fun a ha => by have := R5.ge a ha; (try simp at this); omega
        have n6 : ∀ a, B5 = some a → a.block ≠ g2 := fun a ha => by have := R6.ge a ha; (try simp at this); omega
        exact RetStateV.mk HL1.out HR1.out (row_far7 h5 n5 _ _ _ _ _ _ _) (row_far7 h6 n6 _ _ _ _ _ _ _) hap (below_far7 (bthen F2.out E3) (show w.heap.size ≤ g2 by omega) _ _ _ _ _ _ _)
end Go.Proofs.YtokklkmibjpjnaaGreat
namespace Go.Proofs.YtokklkmibjpjnaaGreat
set_option linter.unusedSimpArgs false
set_option linter.unusedVariables false
attribute [local go_sem] n_lt2 n_lt3 n_lt4 n_le2 n_le3
open Go.RowKit
attribute [local go_sem] Ext.cell Ext.frozen
set_option maxRecDepth 100000 in
set_option maxHeartbeats 8000000 in
theorem applied_yes2 (A : Option Addr) (n c : Nat) (B : Option Addr) (m d : Nat) (i0 t0 l0 l1 l2 : Int) (pl : List Pr) (ql : List Jb) (ex et ec es ea eb eg eh : Int) (w : World) (hP : Sl w 2 A n (PR pl)) (hQ : Sl w 5 B m (JB ql)) (hl : pl.length = n) (hr : ql.length = m) (hn : n ≤ 1000) (hm : m ≤ 1000) (hA : A = none → n = 0 ∧ c = 0) (hB : B = none → m = 0 ∧ d = 0) (p2 : List Pr) (q2 : List Jb) (h2 e2 u2 : Int) (hp2 : p2.length ≤ 1000) (hq2 : q2.length ≤ 1000) (hE : Hid (effE l0 l1 l2 pl ql ex et ec es 2 ea eb eg eh = (⟨p2, q2, h2, e2, u2⟩, true))) :
    Calls Tryz.prog 43 #[.agg #[.int .i64 i0, .int .i64 t0, .slice A n c, .slice B m d, .int .i64 l0, .int .i64 l1, .int .i64 l2], .agg #[.int .i64 ex, .int .i64 et, .int .i64 ec, .int .i64 es, .int .i64 2, .int .i64 ea, .int .i64 eb, .int .i64 eg, .int .i64 eh]] w (RetStateV w ex et h2 e2 u2 p2.length (PR p2) q2.length (JB q2) (.int .i64 2)) := by
  have HP := Lib.hid hP
  have HQ := Lib.hid hQ
  have HA := Lib.hid hA
  have HB := Lib.hid hB
  have hL := Lib.hid hl
  have hR := Lib.hid hr
  clear hP hQ hA hB hl hr
  go_enter Tryz.func43, Tryz.ntmps43
  go_upto_region 1 with fail
  obtain ⟨v0, hv0⟩ : ∃ x : World, x = (((w.alloc (.cells #[.int .i64 i0, .int .i64 t0, .slice A n c, .slice B m d, .int .i64 l0, .int .i64 l1, .int .i64 l2] 37)).alloc (.cells #[.int .i64 ex, .int .i64 et, .int .i64 ec, .int .i64 es, .int .i64 2, .int .i64 ea, .int .i64 eb, .int .i64 eg, .int .i64 eh] 43)).alloc (.cells #[.int .i64 0, .int .i64 0, .slice none 0 0, .slice none 0 0, .int .i64 0, .int .i64 0, .int .i64 0] 37)) := ⟨_, rfl⟩
  rw [← hv0]
  have f0 : Below w.heap.size w v0 := by rw [hv0]; (repeat' (first | (with_reducible exact Below.refl _ _) | (with_reducible assumption) | (with_reducible refine Below.alloc ?_ ?_ _) | (with_reducible refine Below.drew ?_) | (with_reducible refine Below.setCell ?_ ?_ _) | (with_reducible refine bstep (by assumption) ?_ ?_) | (with_reducible exact Nat.le_refl _) | omega | (simp [*]; done) | (simp [*]; omega)))
  have z0 : w.heap.size + 3 ≤ v0.heap.size := by rw [hv0]; simp [size_set]
  have HP_0 := Lib.hid (HP.out.below f0)
  have HP_lt := Lib.hid (fun hn => HP.out.lt hn)
  have HQ_0 := Lib.hid (HQ.out.below f0)
  have HQ_lt := Lib.hid (fun hn => HQ.out.lt hn)
  have Ha_0 : Hid (Blk v0 w.heap.size 37 #[.int .i64 i0, .int .i64 t0, .slice A n c, .slice B m d, .int .i64 l0, .int .i64 l1, .int .i64 l2]) := by rw [hv0]; exact ((Blk.new_at _ _ _ _ (by simp)).alloc _).alloc _
  have Hb_0 : Hid (Blk v0 (w.heap.size + 1) 43 #[.int .i64 ex, .int .i64 et, .int .i64 ec, .int .i64 es, .int .i64 2, .int .i64 ea, .int .i64 eb, .int .i64 eg, .int .i64 eh]) := by rw [hv0]; exact (Blk.new_at _ _ _ _ (by simp)).alloc _
  have Hr_0 : Hid (Blk v0 (w.heap.size + 1 + 1) 37 #[.int .i64 0, .int .i64 0, .slice none 0 0, .slice none 0 0, .int .i64 0, .int .i64 0, .int .i64 0]) := by rw [hv0]; exact Blk.new_at _ _ _ _ (by simp)
  clear hv0
  generalize hg2 : w.heap.size + 1 + 1 = g2 at *
  generalize hg1 : w.heap.size + 1 = g1 at *
  have lg1 : w.heap.size < g1 := by omega
  have lg2 : g1 < g2 := by omega
  have lgz : g2 < v0.heap.size := by omega
  have nq1x0 : ¬ g1 = w.heap.size := by omega
  have nq0x1 : ¬ w.heap.size = g1 := by omega
  have nq2x0 : ¬ g2 = w.heap.size := by omega
  have nq0x2 : ¬ w.heap.size = g2 := by omega
  have nq2x1 : ¬ g2 = g1 := by omega
  have nq1x2 : ¬ g1 = g2 := by omega
  clear hg1 hg2
  have lt_a := Ha_0.out.lt
  obtain ⟨r_a0, r_a1, r_a2, r_a3, r_a4, r_a5, r_a6⟩ := bc7 Ha_0.out
  have lt_b := Hb_0.out.lt
  obtain ⟨r_b0, r_b1, r_b2, r_b3, r_b4, r_b5, r_b6, r_b7, r_b8⟩ := bc9 Hb_0.out
  go_cut [6, 7] (fun pv ov wx => ∃ (g : Nat) (A1 : Option Addr) (n1 c1 : Nat) (B1 : Option Addr) (m1 d1 : Nat) (x0 x1 x2 : Int), pv = .pointer (some ⟨g, 0, none⟩) ∧ ov = .bool true ∧ g2 < g ∧ v0.heap.size ≤ g ∧ Hid (Blk wx g 37 #[.int .i64 i0, .int .i64 t0, .slice A1 n1 c1, .slice B1 m1 d1, .int .i64 x0, .int .i64 x1, .int .i64 x2]) ∧ Hid (Below v0.heap.size v0 wx) ∧ Hid (x0 = h2 ∧ x1 = e2 ∧ x2 = u2) ∧ Hid (Sl wx 2 A1 n1 (PR p2)) ∧ Hid (p2.length = n1) ∧ Hid (A1 = none → n1 = 0 ∧ c1 = 0) ∧ Hid (Sl wx 5 B1 m1 (JB q2)) ∧ Hid (q2.length = m1) ∧ Hid (B1 = none → m1 = 0 ∧ d1 = 0) ∧ Hid (0 < n1 → ∀ a, A1 = some a → a.block ≠ g) ∧ Hid (0 < m1 → ∀ a, B1 = some a → a.block ≠ g))
  case first =>
    have hnm : n ≤ maxLen := by unfold maxLen; omega
    have hmm : m ≤ maxLen := by unfold maxLen; omega
    have hS0 : ∀ b o, b < v0.heap.size → v0.cell? ⟨b, o, none⟩ = v0.cell? ⟨b, o, none⟩ := fun b o hb => rfl
    have ix : ∀ wz : World, (Instr.index 116 (.agg #[.nilFunc, .func (.func 97) #[] #[], .func (.func 99) #[] #[], .func (.func 101) #[] #[], .func (.func 103) #[] #[], .func (.func 107) #[] #[]]) (.int .i64 2)).run Tryz.prog wz = .ok (.func (.func 99) #[] #[]) wz := fun _ => by kernel_rfl
    go_region_held_law (fun w' => ∀ b o, b < v0.heap.size → w'.cell? ⟨b, o, none⟩ = v0.cell? ⟨b, o, none⟩) (repeat' (first | with_reducible assumption | with_reducible exact Nat.le_refl _ | with_reducible exact hS0 | with_reducible refine hl_drew ?_ | with_reducible refine hl_alloc ?_ ?_ _ | with_reducible refine hl_set7 ?_ ?_ _ _ _ _ _ _ _)) (first | (go_at_call 82; refine (effects_any _).mono ?_; rintro e u1 ⟨rfl, b1⟩; (first | (have KB : Blk u1 v0.heap.size 37 #[.int .i64 0, .int .i64 0, .slice none 0 0, .slice none 0 0, .int .i64 0, .int .i64 0, .int .i64 0] := by with_reducible exact t_below2 b1 (Blk.new_at _ _ _ _ rfl)) | (have KB : Blk u1 v0.heap.size 37 #[.int .i64 0, .int .i64 0, .slice none 0 0, .slice none 0 0, .int .i64 0, .int .i64 0, .int .i64 0] := by with_reducible exact t_below2 b1 (Blk.drew (Blk.new_at _ _ _ _ rfl))) | (have KB : Blk u1 v0.heap.size 37 #[.int .i64 0, .int .i64 0, .slice none 0 0, .slice none 0 0, .int .i64 0, .int .i64 0, .int .i64 0] := by with_reducible exact t_below2 b1 (Blk.new_at _ _ _ _ (t_drew_size _))) | (replace KB := t_below2 b1 KB) | (replace KB := t_below2 b1 (Blk.drew KB)) | skip); have E1 : Below v0.heap.size v0 u1 := (by first | with_reducible exact b1 | with_reducible exact tb_dr b1 | with_reducible exact tb_al b1 | with_reducible exact tb_da b1 | with_reducible exact tb_ad b1); have H1 := E1; have y1 := H1.size; have hS1 : ∀ b o, b < v0.heap.size → u1.cell? ⟨b, o, none⟩ = v0.cell? ⟨b, o, none⟩ := fun b o hb => H1.cell (p := ⟨b, o, none⟩) hb; have HPu := Lib.hid (HP_0.out.below E1); have HQu := Lib.hid (HQ_0.out.below E1)) | (go_at_call 99; refine (eff2_R A n c B m d i0 t0 l0 l1 l2 pl ql ex et ec es ea eb eg eh _ (by first | with_reducible exact HPu.out | with_reducible exact Sl.alloc HPu.out _) (by first | with_reducible exact HQu.out | with_reducible exact Sl.alloc HQu.out _) hL.out hR.out hnm hmm HA.out HB.out w.heap.size HP_lt.out HQ_lt.out p2 q2 h2 e2 u2 true hE).mono ?_; rintro e u2_ ⟨A1, n1, c1, B1, m1, d1, x0, x1, x2, rfl, b2, hx⟩; obtain ⟨hx0, hx1, hx2, hP1, hl1, hA1, hQ1, hr1, hB1, hL1, hL2⟩ := hx rfl; (first | (have KB : Blk u2_ u1.heap.size 37 #[.int .i64 0, .int .i64 0, .slice none 0 0, .slice none 0 0, .int .i64 0, .int .i64 0, .int .i64 0] := by with_reducible exact t_below2 b2 (Blk.new_at _ _ _ _ rfl)) | (have KB : Blk u2_ u1.heap.size 37 #[.int .i64 0, .int .i64 0, .slice none 0 0, .slice none 0 0, .int .i64 0, .int .i64 0, .int .i64 0] := by with_reducible exact t_below2 b2 (Blk.drew (Blk.new_at _ _ _ _ rfl))) | (have KB : Blk u2_ u1.heap.size 37 #[.int .i64 0, .int .i64 0, .slice none 0 0, .slice none 0 0, .int .i64 0, .int .i64 0, .int .i64 0] := by with_reducible exact t_below2 b2 (Blk.new_at _ _ _ _ (t_drew_size _))) | (replace KB := t_below2 b2 KB) | (replace KB := t_below2 b2 (Blk.drew KB)) | skip); have E2 : Below u1.heap.size u1 u2_ := (by first | with_reducible exact b2 | with_reducible exact tb_dr b2 | with_reducible exact tb_al b2 | with_reducible exact tb_da b2 | with_reducible exact tb_ad b2); have H2 := bthen H1 E2; have y2 := H2.size; have hS2 : ∀ b o, b < v0.heap.size → u2_.cell? ⟨b, o, none⟩ = v0.cell? ⟨b, o, none⟩ := fun b o hb => H2.cell (p := ⟨b, o, none⟩) hb; (try (have kb0 := KB.cell 0)); (try (have kf0 := KB.frozen 0)); (try (have kb1 := KB.cell 1)); (try (have kf1 := KB.frozen 1)); (try (have kb2 := KB.cell 2)); (try (have kf2 := KB.frozen 2)); (try (have kb3 := KB.cell 3)); (try (have kf3 := KB.frozen 3)); (try (have kb4 := KB.cell 4)); (try (have kf4 := KB.frozen 4)); (try (have kb5 := KB.cell 5)); (try (have kf5 := KB.frozen 5)); (try (have kb6 := KB.cell 6)); (try (have kf6 := KB.frozen 6)); (try (have kbl := KB.lt))))
    all_goals
      have s1 := b1.size
      have s2 := b2.size
      (try simp only [t_size_alloc, ← t_drew_size] at s1)
      (try simp only [t_size_alloc, ← t_drew_size] at s2)
      go_wp2_with fail
      go_meet
      first
        | (with_reducible refine ⟨u2_.heap.size, A1, n1, c1, B1, m1, d1, h2, e2, u2, rfl, rfl, ?_, ?_, ?_, ?_, ?_, ?_, ?_, ?_, ?_, ?_, ?_, ?_, ?_⟩
           · omega
           · omega
           · exact Lib.hid (Blk.new_at _ _ _ _ rfl)
           · exact Lib.hid (H2.alloc y2 _)
           · exact Lib.hid ⟨rfl, rfl, rfl⟩
           · exact Lib.hid (hP1.alloc _)
           · exact Lib.hid hl1
           · exact Lib.hid hA1
           · exact Lib.hid (hQ1.alloc _)
           · exact Lib.hid hr1
           · exact Lib.hid hB1
           · exact (Lib.hid (fun h0 a ha => by have hA := (hP1).lt h0 a ha; have hB := hL1 h0 a ha; have hC := lgz; (try simp only [t_size_alloc] at hB); omega))
           · exact (Lib.hid (fun h0 a ha => by have hA := (hQ1).lt h0 a ha; have hB := hL2 h0 a ha; have hC := lgz; (try simp only [t_size_alloc] at hB); omega)))
        | (with_reducible refine ⟨u1.heap.size, A1, n1, c1, B1, m1, d1, h2, e2, u2, rfl, rfl, ?_, ?_, ?_, ?_, ?_, ?_, ?_, ?_, ?_, ?_, ?_, ?_, ?_⟩
           · omega
           · omega
           · exact Lib.hid (((((((KB.set_ 0 _).set_ 1 _).set_ 2 _).set_ 3 _).set_ 4 _).set_ 5 _).set_ 6 _)
           · exact Lib.hid (below_far7 H2 (by omega) _ _ _ _ _ _ _)
           · exact Lib.hid ⟨rfl, rfl, rfl⟩
           · exact Lib.hid (sl_far7 hP1 (fun h0 a ha => by have hA := (hP1).lt h0 a ha; have hB := hL1 h0 a ha; have hC := lgz; (try simp only [t_size_alloc] at hB); omega) _ _ _ _ _ _ _)
           · exact Lib.hid hl1
           · exact Lib.hid hA1
           · exact Lib.hid (sl_far7 hQ1 (fun h0 a ha => by have hA := (hQ1).lt h0 a ha; have hB := hL2 h0 a ha; have hC := lgz; (try simp only [t_size_alloc] at hB); omega) _ _ _ _ _ _ _)
           · exact Lib.hid hr1
           · exact Lib.hid hB1
           · exact (Lib.hid (fun h0 a ha => by have hA := (hP1).lt h0 a ha; have hB := hL1 h0 a ha; have hC := lgz; (try simp only [t_size_alloc] at hB); omega))
           · exact (Lib.hid (fun h0 a ha => by have hA := (hQ1).lt h0 a ha; have hB := hL2 h0 a ha; have hC := lgz; (try simp only [t_size_alloc] at hB); omega)))
        | (with_reducible refine ⟨v0.heap.size, A1, n1, c1, B1, m1, d1, h2, e2, u2, rfl, rfl, ?_, ?_, ?_, ?_, ?_, ?_, ?_, ?_, ?_, ?_, ?_, ?_, ?_⟩
           · omega
           · omega
           · exact Lib.hid (((((((KB.set_ 0 _).set_ 1 _).set_ 2 _).set_ 3 _).set_ 4 _).set_ 5 _).set_ 6 _)
           · exact Lib.hid (below_far7 H2 (by omega) _ _ _ _ _ _ _)
           · exact Lib.hid ⟨rfl, rfl, rfl⟩
           · exact Lib.hid (sl_far7 hP1 (fun h0 a ha => by have hA := (hP1).lt h0 a ha; have hB := hL1 h0 a ha; have hC := lgz; (try simp only [t_size_alloc] at hB); omega) _ _ _ _ _ _ _)
           · exact Lib.hid hl1
           · exact Lib.hid hA1
           · exact Lib.hid (sl_far7 hQ1 (fun h0 a ha => by have hA := (hQ1).lt h0 a ha; have hB := hL2 h0 a ha; have hC := lgz; (try simp only [t_size_alloc] at hB); omega) _ _ _ _ _ _ _)
           · exact Lib.hid hr1
           · exact Lib.hid hB1
           · exact (Lib.hid (fun h0 a ha => by have hA := (hP1).lt h0 a ha; have hB := hL1 h0 a ha; have hC := lgz; (try simp only [t_size_alloc] at hB); omega))
           · exact (Lib.hid (fun h0 a ha => by have hA := (hQ1).lt h0 a ha; have hB := hL2 h0 a ha; have hC := lgz; (try simp only [t_size_alloc] at hB); omega)))
  case rest =>
    obtain ⟨g, A1, n1, c1, B1, m1, d1, x0, x1, x2, rfl, rfl, hg2, hgz, KX, E1, HX, HP1, HL1, HA1, HQ1, HR1, HB1, HN1, HN2⟩ := hcut
    rename World => v1
    obtain ⟨hx0, hx1, hx2⟩ := HX.out
    subst hx0 hx1 hx2
    clear HX
    clear lt_a r_a0 r_a1 r_a2 r_a3 r_a4 r_a5 r_a6 lt_b r_b0 r_b1 r_b2 r_b3 r_b4 r_b5 r_b6 r_b7 r_b8
    have F1 := Lib.hid (bthen f0 E1.out)
    have y1 := E1.out.size
    have Kb := Lib.hid (Hb_0.out.below E1.out)
    have Kr := Lib.hid (Hr_0.out.below E1.out)
    clear Ha_0 Hb_0 Hr_0 HP_0 HQ_0 HP_lt HQ_lt HP HQ HA HB hL hR
    go_upto_region 4 with fail
    have lt_b := Kb.out.lt
    obtain ⟨r_b0, r_b1, r_b2, r_b3, r_b4, r_b5, r_b6, r_b7, r_b8⟩ := bc9 Kb.out
    have lt_x := KX.out.lt
    have r_x0 : v1.cell? ⟨g, 0, none⟩ = some (.int .i64 i0) := KX.out.cell 0
    have z_x0 := KX.out.frozen 0
    have r_x1 : v1.cell? ⟨g, 1, none⟩ = some (.int .i64 t0) := KX.out.cell 1
    have z_x1 := KX.out.frozen 1
    have r_x2 : v1.cell? ⟨g, 2, none⟩ = some (.slice A1 n1 c1) := KX.out.cell 2
    have z_x2 := KX.out.frozen 2
    have r_x3 : v1.cell? ⟨g, 3, none⟩ = some (.slice B1 m1 d1) := KX.out.cell 3
    have z_x3 := KX.out.frozen 3
    have r_x4 : v1.cell? ⟨g, 4, none⟩ = some (.int .i64 x0) := KX.out.cell 4
    have z_x4 := KX.out.frozen 4
    have r_x5 : v1.cell? ⟨g, 5, none⟩ = some (.int .i64 x1) := KX.out.cell 5
    have z_x5 := KX.out.frozen 5
    have r_x6 : v1.cell? ⟨g, 6, none⟩ = some (.int .i64 x2) := KX.out.cell 6
    have z_x6 := KX.out.frozen 6
    have ngb : ¬ g = g1 := by omega
    have nbg : ¬ g1 = g := by omega
    go_cut [] (fun wx => Hid (Blk wx g 37 #[.int .i64 ex, .int .i64 et, .slice A1 n1 c1, .slice B1 m1 d1, .int .i64 x0, .int .i64 x1, .int .i64 x2]) ∧ Hid (Below w.heap.size w wx) ∧ Hid (Blk wx g1 43 #[.int .i64 ex, .int .i64 et, .int .i64 ec, .int .i64 es, .int .i64 2, .int .i64 ea, .int .i64 eb, .int .i64 eg, .int .i64 eh]) ∧ Hid (Blk wx g2 37 #[.int .i64 0, .int .i64 0, .slice none 0 0, .slice none 0 0, .int .i64 0, .int .i64 0, .int .i64 0]) ∧ Hid (Sl wx 2 A1 n1 (PR p2)) ∧ Hid (Sl wx 5 B1 m1 (JB q2)))
    case first =>
      have hS0 : ∀ b o, b < g → v1.cell? ⟨b, o, none⟩ = v1.cell? ⟨b, o, none⟩ := fun b o hb => rfl
      have lbg : g1 < g := by omega
      go_region_held_law (fun w' => ∀ b o, b < g → w'.cell? ⟨b, o, none⟩ = v1.cell? ⟨b, o, none⟩) (repeat' (first | with_reducible assumption | with_reducible exact Nat.le_refl _ | with_reducible exact hS0 | with_reducible refine hl_drew ?_ | with_reducible refine hl_set ?_ ?_ _ _)) (fail)
      all_goals
        go_wp2_with fail
        go_meet
        first
          | exact ⟨Lib.hid (((KX.out.drew).set_ 0 _).set_ 1 _), Lib.hid (((F1.out.drew).setCell (p := ⟨g, 0, none⟩) (by show w.heap.size ≤ g; omega) _).setCell (p := ⟨g, 1, none⟩) (by show w.heap.size ≤ g; omega) _), Lib.hid (((Kb.out.drew).far (p := ⟨g, 0, none⟩) (show g1 ≠ g by omega) _).far (p := ⟨g, 1, none⟩) (show g1 ≠ g by omega) _), Lib.hid (((Kr.out.drew).far (p := ⟨g, 0, none⟩) (show g2 ≠ g by omega) _).far (p := ⟨g, 1, none⟩) (show g2 ≠ g by omega) _), Lib.hid (((HP1.out.drew).far (p := ⟨g, 0, none⟩) (fun h0 a ha => HN1.out h0 a ha) _).far (p := ⟨g, 1, none⟩) (fun h0 a ha => HN1.out h0 a ha) _), Lib.hid (((HQ1.out.drew).far (p := ⟨g, 0, none⟩) (fun h0 a ha => HN2.out h0 a ha) _).far (p := ⟨g, 1, none⟩) (fun h0 a ha => HN2.out h0 a ha) _)⟩
          | exact ⟨Lib.hid (((KX.out.drew).set_ 1 _).set_ 0 _), Lib.hid (((F1.out.drew).setCell (p := ⟨g, 1, none⟩) (by show w.heap.size ≤ g; omega) _).setCell (p := ⟨g, 0, none⟩) (by show w.heap.size ≤ g; omega) _), Lib.hid (((Kb.out.drew).far (p := ⟨g, 1, none⟩) (show g1 ≠ g by omega) _).far (p := ⟨g, 0, none⟩) (show g1 ≠ g by omega) _), Lib.hid (((Kr.out.drew).far (p := ⟨g, 1, none⟩) (show g2 ≠ g by omega) _).far (p := ⟨g, 0, none⟩) (show g2 ≠ g by omega) _), Lib.hid (((HP1.out.drew).far (p := ⟨g, 1, none⟩) (fun h0 a ha => HN1.out h0 a ha) _).far (p := ⟨g, 0, none⟩) (fun h0 a ha => HN1.out h0 a ha) _), Lib.hid (((HQ1.out.drew).far (p := ⟨g, 1, none⟩) (fun h0 a ha => HN2.out h0 a ha) _).far (p := ⟨g, 0, none⟩) (fun h0 a ha => HN2.out h0 a ha) _)⟩
    case rest =>
      clear lt_b r_b0 r_b1 r_b2 r_b3 r_b4 r_b5 r_b6 r_b7 r_b8
      clear lt_x r_x0 z_x0 r_x1 z_x1 r_x2 z_x2 r_x3 z_x3 r_x4 z_x4 r_x5 z_x5 r_x6 z_x6
      obtain ⟨KX2, F2, Kb2, Kr2, HP2, HQ2⟩ := hcut
      rename World => v2
      clear KX
      clear Kb Kr HP1 HQ1
      go_upto_region 7 with fail
      have ngr : ¬ g = g2 := by omega
      have nbr : ¬ g1 = g2 := by omega
      have lt_b := Kb2.out.lt
      obtain ⟨r_b0, r_b1, r_b2, r_b3, r_b4, r_b5, r_b6, r_b7, r_b8⟩ := bc9 Kb2.out
      have lt_x := KX2.out.lt
      have r_x0 : v2.cell? ⟨g, 0, none⟩ = some (.int .i64 ex) := KX2.out.cell 0
      have z_x0 := KX2.out.frozen 0
      have r_x1 : v2.cell? ⟨g, 1, none⟩ = some (.int .i64 et) := KX2.out.cell 1
      have z_x1 := KX2.out.frozen 1
      have r_x2 : v2.cell? ⟨g, 2, none⟩ = some (.slice A1 n1 c1) := KX2.out.cell 2
      have z_x2 := KX2.out.frozen 2
      have r_x3 : v2.cell? ⟨g, 3, none⟩ = some (.slice B1 m1 d1) := KX2.out.cell 3
      have z_x3 := KX2.out.frozen 3
      have r_x4 : v2.cell? ⟨g, 4, none⟩ = some (.int .i64 x0) := KX2.out.cell 4
      have z_x4 := KX2.out.frozen 4
      have r_x5 : v2.cell? ⟨g, 5, none⟩ = some (.int .i64 x1) := KX2.out.cell 5
      have z_x5 := KX2.out.frozen 5
      have r_x6 : v2.cell? ⟨g, 6, none⟩ = some (.int .i64 x2) := KX2.out.cell 6
      have z_x6 := KX2.out.frozen 6
      have lt_r := Kr2.out.lt
      have r_r0 : v2.cell? ⟨g2, 0, none⟩ = some (.int .i64 0) := Kr2.out.cell 0
      have z_r0 := Kr2.out.frozen 0
      have r_r1 : v2.cell? ⟨g2, 1, none⟩ = some (.int .i64 0) := Kr2.out.cell 1
      have z_r1 := Kr2.out.frozen 1
      have r_r2 : v2.cell? ⟨g2, 2, none⟩ = some (.slice none 0 0) := Kr2.out.cell 2
      have z_r2 := Kr2.out.frozen 2
      have r_r3 : v2.cell? ⟨g2, 3, none⟩ = some (.slice none 0 0) := Kr2.out.cell 3
      have z_r3 := Kr2.out.frozen 3
      have r_r4 : v2.cell? ⟨g2, 4, none⟩ = some (.int .i64 0) := Kr2.out.cell 4
      have z_r4 := Kr2.out.frozen 4
      have r_r5 : v2.cell? ⟨g2, 5, none⟩ = some (.int .i64 0) := Kr2.out.cell 5
      have z_r5 := Kr2.out.frozen 5
      have r_r6 : v2.cell? ⟨g2, 6, none⟩ = some (.int .i64 0) := Kr2.out.cell 6
      have z_r6 := Kr2.out.frozen 6
      have hS0 : ∀ b o, b < v2.heap.size → b ≠ g2 → v2.cell? ⟨b, o, none⟩ = v2.cell? ⟨b, o, none⟩ := fun b o hb hk => rfl
      go_region_held_law (fun w' => ∀ b o, b < v2.heap.size → b ≠ g2 → w'.cell? ⟨b, o, none⟩ = v2.cell? ⟨b, o, none⟩) (repeat' (first | with_reducible assumption | with_reducible exact hS0 | with_reducible refine hn_drew ?_ | with_reducible refine hn_set7 ?_ _ _ _ _ _ _ _)) (first | (go_at_call 42; refine (copyState_any A1 n1 c1 B1 m1 d1 ex et x0 x1 x2 p2 q2 _ (by first | with_reducible exact HP2.out | with_reducible exact Sl.drew HP2.out) (by first | with_reducible exact HQ2.out | with_reducible exact Sl.drew HQ2.out) HL1.out HR1.out (by have := HL1.out; omega) (by have := HR1.out; omega) HA1.out HB1.out).mono ?_; rintro e v3 ⟨A5, c5, B5, d5, rfl, R5, R6, hap, b3⟩; have E3 : Below v2.heap.size v2 v3 := (by first | with_reducible exact b3 | with_reducible exact tb_dr b3); have hS3 : ∀ b o, b < v2.heap.size → b ≠ g2 → v3.cell? ⟨b, o, none⟩ = v2.cell? ⟨b, o, none⟩ := fun b o hb hk => E3.cell (p := ⟨b, o, none⟩) hb; have Kr3 := Kr2.out.below E3; have yb0 := Kr3.cell 0; have yf0 := Kr3.frozen 0; have yb1 := Kr3.cell 1; have yf1 := Kr3.frozen 1; have yb2 := Kr3.cell 2; have yf2 := Kr3.frozen 2; have yb3 := Kr3.cell 3; have yf3 := Kr3.frozen 3; have yb4 := Kr3.cell 4; have yf4 := Kr3.frozen 4; have yb5 := Kr3.cell 5; have yf5 := Kr3.frozen 5; have yb6 := Kr3.cell 6; have yf6 := Kr3.frozen 6; have yl := Kr3.lt))
      all_goals
        go_wp21
        refine bodyPost_ret (v := .tuple #[.agg #[.int .i64 ex, .int .i64 et, .slice A5 n1 c5, .slice B5 m1 d5, .int .i64 x0, .int .i64 x1, .int .i64 x2], .int .i64 2]) (by simp [results, Tryz.results43, go_sem, *]) rfl ?_
        have h5 := R5.mono (show w.heap.size ≤ _ from F2.out.size)
        have h6 := R6.mono (show w.heap.size ≤ _ from F2.out.size)
        have n5 : ∀ a, A5 = some a → a.block ≠ g2 := fun a ha => by have := R5.ge a ha; (try simp at this); omega
        have n6 : ∀ a, B5 = some a → a.block ≠ g2 := fun a ha => by have := R6.ge a ha; (try simp at this); omega
        exact RetStateV.mk HL1.out HR1.out (row_far7 h5 n5 _ _ _ _ _ _ _) (row_far7 h6 n6 _ _ _ _ _ _ _) hap (below_far7 (bthen F2.out E3) (show w.heap.size ≤ g2 by omega) _ _ _ _ _ _ _)
end Go.Proofs.YtokklkmibjpjnaaGreat
namespace Go.Proofs.YtokklkmibjpjnaaGreat
set_option linter.unusedSimpArgs false
set_option linter.unusedVariables false
attribute [local go_sem] n_lt2 n_lt3 n_lt4 n_le2 n_le3
open Go.RowKit
attribute [local go_sem] Ext.cell Ext.frozen
set_option maxRecDepth 100000 in
set_option maxHeartbeats 8000000 in
theorem applied_yes3 (A : Option Addr) (n c : Nat) (B : Option Addr) (m d : Nat) (i0 t0 l0 l1 l2 : Int) (pl : List Pr) (ql : List Jb) (ex et ec es ea eb eg eh : Int) (w : World) (hP : Sl w 2 A n (PR pl)) (hQ : Sl w 5 B m (JB ql)) (hl : pl.length = n) (hr : ql.length = m) (hn : n ≤ 1000) (hm : m ≤ 1000) (hA : A = none → n = 0 ∧ c = 0) (hB : B = none → m = 0 ∧ d = 0) (p2 : List Pr) (q2 : List Jb) (h2 e2 u2 : Int) (hp2 : p2.length ≤ 1000) (hq2 : q2.length ≤ 1000) (hE : Hid (effE l0 l1 l2 pl ql ex et ec es 3 ea eb eg eh = (⟨p2, q2, h2, e2, u2⟩, true))) :
    Calls Tryz.prog 43 #[.agg #[.int .i64 i0, .int .i64 t0, .slice A n c, .slice B m d, .int .i64 l0, .int .i64 l1, .int .i64 l2], .agg #[.int .i64 ex, .int .i64 et, .int .i64 ec, .int .i64 es, .int .i64 3, .int .i64 ea, .int .i64 eb, .int .i64 eg, .int .i64 eh]] w (RetStateV w ex et h2 e2 u2 p2.length (PR p2) q2.length (JB q2) (.int .i64 3)) := by
  have HP := Lib.hid hP
  have HQ := Lib.hid hQ
  have HA := Lib.hid hA
  have HB := Lib.hid hB
  have hL := Lib.hid hl
  have hR := Lib.hid hr
  clear hP hQ hA hB hl hr
  go_enter Tryz.func43, Tryz.ntmps43
  go_upto_region 1 with fail
  obtain ⟨v0, hv0⟩ : ∃ x : World, x = (((w.alloc (.cells #[.int .i64 i0, .int .i64 t0, .slice A n c, .slice B m d, .int .i64 l0, .int .i64 l1, .int .i64 l2] 37)).alloc (.cells #[.int .i64 ex, .int .i64 et, .int .i64 ec, .int .i64 es, .int .i64 3, .int .i64 ea, .int .i64 eb, .int .i64 eg, .int .i64 eh] 43)).alloc (.cells #[.int .i64 0, .int .i64 0, .slice none 0 0, .slice none 0 0, .int .i64 0, .int .i64 0, .int .i64 0] 37)) := ⟨_, rfl⟩
  rw [← hv0]
  have f0 : Below w.heap.size w v0 := by rw [hv0]; (repeat' (first | (with_reducible exact Below.refl _ _) | (with_reducible assumption) | (with_reducible refine Below.alloc ?_ ?_ _) | (with_reducible refine Below.drew ?_) | (with_reducible refine Below.setCell ?_ ?_ _) | (with_reducible refine bstep (by assumption) ?_ ?_) | (with_reducible exact Nat.le_refl _) | omega | (simp [*]; done) | (simp [*]; omega)))
  have z0 : w.heap.size + 3 ≤ v0.heap.size := by rw [hv0]; simp [size_set]
  have HP_0 := Lib.hid (HP.out.below f0)
  have HP_lt := Lib.hid (fun hn => HP.out.lt hn)
  have HQ_0 := Lib.hid (HQ.out.below f0)
  have HQ_lt := Lib.hid (fun hn => HQ.out.lt hn)
  have Ha_0 : Hid (Blk v0 w.heap.size 37 #[.int .i64 i0, .int .i64 t0, .slice A n c, .slice B m d, .int .i64 l0, .int .i64 l1, .int .i64 l2]) := by rw [hv0]; exact ((Blk.new_at _ _ _ _ (by simp)).alloc _).alloc _
  have Hb_0 : Hid (Blk v0 (w.heap.size + 1) 43 #[.int .i64 ex, .int .i64 et, .int .i64 ec, .int .i64 es, .int .i64 3, .int .i64 ea, .int .i64 eb, .int .i64 eg, .int .i64 eh]) := by rw [hv0]; exact (Blk.new_at _ _ _ _ (by simp)).alloc _
  have Hr_0 : Hid (Blk v0 (w.heap.size + 1 + 1) 37 #[.int .i64 0, .int .i64 0, .slice none 0 0, .slice none 0 0, .int .i64 0, .int .i64 0, .int .i64 0]) := by rw [hv0]; exact Blk.new_at _ _ _ _ (by simp)
  clear hv0
  generalize hg2 : w.heap.size + 1 + 1 = g2 at *
  generalize hg1 : w.heap.size + 1 = g1 at *
  have lg1 : w.heap.size < g1 := by omega
  have lg2 : g1 < g2 := by omega
  have lgz : g2 < v0.heap.size := by omega
  have nq1x0 : ¬ g1 = w.heap.size := by omega
  have nq0x1 : ¬ w.heap.size = g1 := by omega
  have nq2x0 : ¬ g2 = w.heap.size := by omega
  have nq0x2 : ¬ w.heap.size = g2 := by omega
  have nq2x1 : ¬ g2 = g1 := by omega
  have nq1x2 : ¬ g1 = g2 := by omega
  clear hg1 hg2
  have lt_a := Ha_0.out.lt
  obtain ⟨r_a0, r_a1, r_a2, r_a3, r_a4, r_a5, r_a6⟩ := bc7 Ha_0.out
  have lt_b := Hb_0.out.lt
  obtain ⟨r_b0, r_b1, r_b2, r_b3, r_b4, r_b5, r_b6, r_b7, r_b8⟩ := bc9 Hb_0.out
  go_cut [6, 7] (fun pv ov wx => ∃ (g : Nat) (A1 : Option Addr) (n1 c1 : Nat) (B1 : Option Addr) (m1 d1 : Nat) (x0 x1 x2 : Int), pv = .pointer (some ⟨g, 0, none⟩) ∧ ov = .bool true ∧ g2 < g ∧ v0.heap.size ≤ g ∧ Hid (Blk wx g 37 #[.int .i64 i0, .int .i64 t0, .slice A1 n1 c1, .slice B1 m1 d1, .int .i64 x0, .int .i64 x1, .int .i64 x2]) ∧ Hid (Below v0.heap.size v0 wx) ∧ Hid (x0 = h2 ∧ x1 = e2 ∧ x2 = u2) ∧ Hid (Sl wx 2 A1 n1 (PR p2)) ∧ Hid (p2.length = n1) ∧ Hid (A1 = none → n1 = 0 ∧ c1 = 0) ∧ Hid (Sl wx 5 B1 m1 (JB q2)) ∧ Hid (q2.length = m1) ∧ Hid (B1 = none → m1 = 0 ∧ d1 = 0) ∧ Hid (0 < n1 → ∀ a, A1 = some a → a.block ≠ g) ∧ Hid (0 < m1 → ∀ a, B1 = some a → a.block ≠ g))
  case first =>
    have hnm : n ≤ maxLen := by unfold maxLen; omega
    have hmm : m ≤ maxLen := by unfold maxLen; omega
    have hS0 : ∀ b o, b < v0.heap.size → v0.cell? ⟨b, o, none⟩ = v0.cell? ⟨b, o, none⟩ := fun b o hb => rfl
    have ix : ∀ wz : World, (Instr.index 116 (.agg #[.nilFunc, .func (.func 97) #[] #[], .func (.func 99) #[] #[], .func (.func 101) #[] #[], .func (.func 103) #[] #[], .func (.func 107) #[] #[]]) (.int .i64 3)).run Tryz.prog wz = .ok (.func (.func 101) #[] #[]) wz := fun _ => by kernel_rfl
    go_region_held_law (fun w' => ∀ b o, b < v0.heap.size → w'.cell? ⟨b, o, none⟩ = v0.cell? ⟨b, o, none⟩) (repeat' (first | with_reducible assumption | with_reducible exact Nat.le_refl _ | with_reducible exact hS0 | with_reducible refine hl_drew ?_ | with_reducible refine hl_alloc ?_ ?_ _ | with_reducible refine hl_set7 ?_ ?_ _ _ _ _ _ _ _)) (first | (go_at_call 82; refine (effects_any _).mono ?_; rintro e u1 ⟨rfl, b1⟩; (first | (have KB : Blk u1 v0.heap.size 37 #[.int .i64 0, .int .i64 0, .slice none 0 0, .slice none 0 0, .int .i64 0, .int .i64 0, .int .i64 0] := by with_reducible exact t_below2 b1 (Blk.new_at _ _ _ _ rfl)) | (have KB : Blk u1 v0.heap.size 37 #[.int .i64 0, .int .i64 0, .slice none 0 0, .slice none 0 0, .int .i64 0, .int .i64 0, .int .i64 0] := by with_reducible exact t_below2 b1 (Blk.drew (Blk.new_at _ _ _ _ rfl))) | (have KB : Blk u1 v0.heap.size 37 #[.int .i64 0, .int .i64 0, .slice none 0 0, .slice none 0 0, .int .i64 0, .int .i64 0, .int .i64 0] := by with_reducible exact t_below2 b1 (Blk.new_at _ _ _ _ (t_drew_size _))) | (replace KB := t_below2 b1 KB) | (replace KB := t_below2 b1 (Blk.drew KB)) | skip); have E1 : Below v0.heap.size v0 u1 := (by first | with_reducible exact b1 | with_reducible exact tb_dr b1 | with_reducible exact tb_al b1 | with_reducible exact tb_da b1 | with_reducible exact tb_ad b1); have H1 := E1; have y1 := H1.size; have hS1 : ∀ b o, b < v0.heap.size → u1.cell? ⟨b, o, none⟩ = v0.cell? ⟨b, o, none⟩ := fun b o hb => H1.cell (p := ⟨b, o, none⟩) hb; have HPu := Lib.hid (HP_0.out.below E1); have HQu := Lib.hid (HQ_0.out.below E1)) | (go_at_call 101; refine (eff3_R A n c B m d i0 t0 l0 l1 l2 pl ql ex et ec es ea eb eg eh _ (by first | with_reducible exact HPu.out | with_reducible exact Sl.alloc HPu.out _) (by first | with_reducible exact HQu.out | with_reducible exact Sl.alloc HQu.out _) hL.out hR.out hnm hmm HA.out HB.out w.heap.size HP_lt.out HQ_lt.out p2 q2 h2 e2 u2 true hE).mono ?_; rintro e u2_ ⟨A1, n1, c1, B1, m1, d1, x0, x1, x2, rfl, b2, hx⟩; obtain ⟨hx0, hx1, hx2, hP1, hl1, hA1, hQ1, hr1, hB1, hL1, hL2⟩ := hx rfl; (first | (have KB : Blk u2_ u1.heap.size 37 #[.int .i64 0, .int .i64 0, .slice none 0 0, .slice none 0 0, .int .i64 0, .int .i64 0, .int .i64 0] := by with_reducible exact t_below2 b2 (Blk.new_at _ _ _ _ rfl)) | (have KB : Blk u2_ u1.heap.size 37 #[.int .i64 0, .int .i64 0, .slice none 0 0, .slice none 0 0, .int .i64 0, .int .i64 0, .int .i64 0] := by with_reducible exact t_below2 b2 (Blk.drew (Blk.new_at _ _ _ _ rfl))) | (have KB : Blk u2_ u1.heap.size 37 #[.int .i64 0, .int .i64 0, .slice none 0 0, .slice none 0 0, .int .i64 0, .int .i64 0, .int .i64 0] := by with_reducible exact t_below2 b2 (Blk.new_at _ _ _ _ (t_drew_size _))) | (replace KB := t_below2 b2 KB) | (replace KB := t_below2 b2 (Blk.drew KB)) | skip); have E2 : Below u1.heap.size u1 u2_ := (by first | with_reducible exact b2 | with_reducible exact tb_dr b2 | with_reducible exact tb_al b2 | with_reducible exact tb_da b2 | with_reducible exact tb_ad b2); have H2 := bthen H1 E2; have y2 := H2.size; have hS2 : ∀ b o, b < v0.heap.size → u2_.cell? ⟨b, o, none⟩ = v0.cell? ⟨b, o, none⟩ := fun b o hb => H2.cell (p := ⟨b, o, none⟩) hb; (try (have kb0 := KB.cell 0)); (try (have kf0 := KB.frozen 0)); (try (have kb1 := KB.cell 1)); (try (have kf1 := KB.frozen 1)); (try (have kb2 := KB.cell 2)); (try (have kf2 := KB.frozen 2)); (try (have kb3 := KB.cell 3)); (try (have kf3 := KB.frozen 3)); (try (have kb4 := KB.cell 4)); (try (have kf4 := KB.frozen 4)); (try (have kb5 := KB.cell 5)); (try (have kf5 := KB.frozen 5)); (try (have kb6 := KB.cell 6)); (try (have kf6 := KB.frozen 6)); (try (have kbl := KB.lt))))
    all_goals
      have s1 := b1.size
      have s2 := b2.size
      (try simp only [t_size_alloc, ← t_drew_size] at s1)
      (try simp only [t_size_alloc, ← t_drew_size] at s2)
      go_wp2_with fail
      go_meet
      first
        | (with_reducible refine ⟨u2_.heap.size, A1, n1, c1, B1, m1, d1, h2, e2, u2, rfl, rfl, ?_, ?_, ?_, ?_, ?_, ?_, ?_, ?_, ?_, ?_, ?_, ?_, ?_⟩
           · omega
           · omega
           · exact Lib.hid (Blk.new_at _ _ _ _ rfl)
           · exact Lib.hid (H2.alloc y2 _)
           · exact Lib.hid ⟨rfl, rfl, rfl⟩
           · exact Lib.hid (hP1.alloc _)
           · exact Lib.hid hl1
           · exact Lib.hid hA1
           · exact Lib.hid (hQ1.alloc _)
           · exact Lib.hid hr1
           · exact Lib.hid hB1
           · exact (Lib.hid (fun h0 a ha => by have hA := (hP1).lt h0 a ha; have hB := hL1 h0 a ha; have hC := lgz; (try simp only [t_size_alloc] at hB); omega))
           · exact (Lib.hid (fun h0 a ha => by have hA := (hQ1).lt h0 a ha; have hB := hL2 h0 a ha; have hC := lgz; (try simp only [t_size_alloc] at hB); omega)))
        | (with_reducible refine ⟨u1.heap.size, A1, n1, c1, B1, m1, d1, h2, e2, u2, rfl, rfl, ?_, ?_, ?_, ?_, ?_, ?_, ?_, ?_, ?_, ?_, ?_, ?_, ?_⟩
           · omega
           · omega
           · exact Lib.hid (((((((KB.set_ 0 _).set_ 1 _).set_ 2 _).set_ 3 _).set_ 4 _).set_ 5 _).set_ 6 _)
           · exact Lib.hid (below_far7 H2 (by omega) _ _ _ _ _ _ _)
           · exact Lib.hid ⟨rfl, rfl, rfl⟩
           · exact Lib.hid (sl_far7 hP1 (fun h0 a ha => by have hA := (hP1).lt h0 a ha; have hB := hL1 h0 a ha; have hC := lgz; (try simp only [t_size_alloc] at hB); omega) _ _ _ _ _ _ _)
           · exact Lib.hid hl1
           · exact Lib.hid hA1
           · exact Lib.hid (sl_far7 hQ1 (fun h0 a ha => by have hA := (hQ1).lt h0 a ha; have hB := hL2 h0 a ha; have hC := lgz; (try simp only [t_size_alloc] at hB); omega) _ _ _ _ _ _ _)
           · exact Lib.hid hr1
           · exact Lib.hid hB1
           · exact (Lib.hid (fun h0 a ha => by have hA := (hP1).lt h0 a ha; have hB := hL1 h0 a ha; have hC := lgz; (try simp only [t_size_alloc] at hB); omega))
           · exact (Lib.hid (fun h0 a ha => by have hA := (hQ1).lt h0 a ha; have hB := hL2 h0 a ha; have hC := lgz; (try simp only [t_size_alloc] at hB); omega)))
        | (with_reducible refine ⟨v0.heap.size, A1, n1, c1, B1, m1, d1, h2, e2, u2, rfl, rfl, ?_, ?_, ?_, ?_, ?_, ?_, ?_, ?_, ?_, ?_, ?_, ?_, ?_⟩
           · omega
           · omega
           · exact Lib.hid (((((((KB.set_ 0 _).set_ 1 _).set_ 2 _).set_ 3 _).set_ 4 _).set_ 5 _).set_ 6 _)
           · exact Lib.hid (below_far7 H2 (by omega) _ _ _ _ _ _ _)
           · exact Lib.hid ⟨rfl, rfl, rfl⟩
           · exact Lib.hid (sl_far7 hP1 (fun h0 a ha => by have hA := (hP1).lt h0 a ha; have hB := hL1 h0 a ha; have hC := lgz; (try simp only [t_size_alloc] at hB); omega) _ _ _ _ _ _ _)
           · exact Lib.hid hl1
           · exact Lib.hid hA1
           · exact Lib.hid (sl_far7 hQ1 (fun h0 a ha => by have hA := (hQ1).lt h0 a ha; have hB := hL2 h0 a ha; have hC := lgz; (try simp only [t_size_alloc] at hB); omega) _ _ _ _ _ _ _)
           · exact Lib.hid hr1
           · exact Lib.hid hB1
           · exact (Lib.hid (fun h0 a ha => by have hA := (hP1).lt h0 a ha; have hB := hL1 h0 a ha; have hC := lgz; (try simp only [t_size_alloc] at hB); omega))
           · exact (Lib.hid (fun h0 a ha => by have hA := (hQ1).lt h0 a ha; have hB := hL2 h0 a ha; have hC := lgz; (try simp only [t_size_alloc] at hB); omega)))
  case rest =>
    obtain ⟨g, A1, n1, c1, B1, m1, d1, x0, x1, x2, rfl, rfl, hg2, hgz, KX, E1, HX, HP1, HL1, HA1, HQ1, HR1, HB1, HN1, HN2⟩ := hcut
    rename World => v1
    obtain ⟨hx0, hx1, hx2⟩ := HX.out
    subst hx0 hx1 hx2
    clear HX
    clear lt_a r_a0 r_a1 r_a2 r_a3 r_a4 r_a5 r_a6 lt_b r_b0 r_b1 r_b2 r_b3 r_b4 r_b5 r_b6 r_b7 r_b8
    have F1 := Lib.hid (bthen f0 E1.out)
    have y1 := E1.out.size
    have Kb := Lib.hid (Hb_0.out.below E1.out)
    have Kr := Lib.hid (Hr_0.out.below E1.out)
    clear Ha_0 Hb_0 Hr_0 HP_0 HQ_0 HP_lt HQ_lt HP HQ HA HB hL hR
    go_upto_region 4 with fail
    have lt_b := Kb.out.lt
    obtain ⟨r_b0, r_b1, r_b2, r_b3, r_b4, r_b5, r_b6, r_b7, r_b8⟩ := bc9 Kb.out
    have lt_x := KX.out.lt
    have r_x0 : v1.cell? ⟨g, 0, none⟩ = some (.int .i64 i0) := KX.out.cell 0
    have z_x0 := KX.out.frozen 0
    have r_x1 : v1.cell? ⟨g, 1, none⟩ = some (.int .i64 t0) := KX.out.cell 1
    have z_x1 := KX.out.frozen 1
    have r_x2 : v1.cell? ⟨g, 2, none⟩ = some (.slice A1 n1 c1) := KX.out.cell 2
    have z_x2 := KX.out.frozen 2
    have r_x3 : v1.cell? ⟨g, 3, none⟩ = some (.slice B1 m1 d1) := KX.out.cell 3
    have z_x3 := KX.out.frozen 3
    have r_x4 : v1.cell? ⟨g, 4, none⟩ = some (.int .i64 x0) := KX.out.cell 4
    have z_x4 := KX.out.frozen 4
    have r_x5 : v1.cell? ⟨g, 5, none⟩ = some (.int .i64 x1) := KX.out.cell 5
    have z_x5 := KX.out.frozen 5
    have r_x6 : v1.cell? ⟨g, 6, none⟩ = some (.int .i64 x2) := KX.out.cell 6
    have z_x6 := KX.out.frozen 6
    have ngb : ¬ g = g1 := by omega
    have nbg : ¬ g1 = g := by omega
    go_cut [] (fun wx => Hid (Blk wx g 37 #[.int .i64 ex, .int .i64 et, .slice A1 n1 c1, .slice B1 m1 d1, .int .i64 x0, .int .i64 x1, .int .i64 x2]) ∧ Hid (Below w.heap.size w wx) ∧ Hid (Blk wx g1 43 #[.int .i64 ex, .int .i64 et, .int .i64 ec, .int .i64 es, .int .i64 3, .int .i64 ea, .int .i64 eb, .int .i64 eg, .int .i64 eh]) ∧ Hid (Blk wx g2 37 #[.int .i64 0, .int .i64 0, .slice none 0 0, .slice none 0 0, .int .i64 0, .int .i64 0, .int .i64 0]) ∧ Hid (Sl wx 2 A1 n1 (PR p2)) ∧ Hid (Sl wx 5 B1 m1 (JB q2)))
    case first =>
      have hS0 : ∀ b o, b < g → v1.cell? ⟨b, o, none⟩ = v1.cell? ⟨b, o, none⟩ := fun b o hb => rfl
      have lbg : g1 < g := by omega
      go_region_held_law (fun w' => ∀ b o, b < g → w'.cell? ⟨b, o, none⟩ = v1.cell? ⟨b, o, none⟩) (repeat' (first | with_reducible assumption | with_reducible exact Nat.le_refl _ | with_reducible exact hS0 | with_reducible refine hl_drew ?_ | with_reducible refine hl_set ?_ ?_ _ _)) (fail)
      all_goals
        go_wp2_with fail
        go_meet
        first
          | exact ⟨Lib.hid (((KX.out.drew).set_ 0 _).set_ 1 _), Lib.hid (((F1.out.drew).setCell (p := ⟨g, 0, none⟩) (by show w.heap.size ≤ g; omega) _).setCell (p := ⟨g, 1, none⟩) (by show w.heap.size ≤ g; omega) _), Lib.hid (((Kb.out.drew).far (p := ⟨g, 0, none⟩) (show g1 ≠ g by omega) _).far (p := ⟨g, 1, none⟩) (show g1 ≠ g by omega) _), Lib.hid (((Kr.out.drew).far (p := ⟨g, 0, none⟩) (show g2 ≠ g by omega) _).far (p := ⟨g, 1, none⟩) (show g2 ≠ g by omega) _), Lib.hid (((HP1.out.drew).far (p := ⟨g, 0, none⟩) (fun h0 a ha => HN1.out h0 a ha) _).far (p := ⟨g, 1, none⟩) (fun h0 a ha => HN1.out h0 a ha) _), Lib.hid (((HQ1.out.drew).far (p := ⟨g, 0, none⟩) (fun h0 a ha => HN2.out h0 a ha) _).far (p := ⟨g, 1, none⟩) (fun h0 a ha => HN2.out h0 a ha) _)⟩
          | exact ⟨Lib.hid (((KX.out.drew).set_ 1 _).set_ 0 _), Lib.hid (((F1.out.drew).setCell (p := ⟨g, 1, none⟩) (by show w.heap.size ≤ g; omega) _).setCell (p := ⟨g, 0, none⟩) (by show w.heap.size ≤ g; omega) _), Lib.hid (((Kb.out.drew).far (p := ⟨g, 1, none⟩) (show g1 ≠ g by omega) _).far (p := ⟨g, 0, none⟩) (show g1 ≠ g by omega) _), Lib.hid (((Kr.out.drew).far (p := ⟨g, 1, none⟩) (show g2 ≠ g by omega) _).far (p := ⟨g, 0, none⟩) (show g2 ≠ g by omega) _), Lib.hid (((HP1.out.drew).far (p := ⟨g, 1, none⟩) (fun h0 a ha => HN1.out h0 a ha) _).far (p := ⟨g, 0, none⟩) (fun h0 a ha => HN1.out h0 a ha) _), Lib.hid (((HQ1.out.drew).far (p := ⟨g, 1, none⟩) (fun h0 a ha => HN2.out h0 a ha) _).far (p := ⟨g, 0, none⟩) (fun h0 a ha => HN2.out h0 a ha) _)⟩
    case rest =>
      clear lt_b r_b0 r_b1 r_b2 r_b3 r_b4 r_b5 r_b6 r_b7 r_b8
      clear lt_x r_x0 z_x0 r_x1 z_x1 r_x2 z_x2 r_x3 z_x3 r_x4 z_x4 r_x5 z_x5 r_x6 z_x6
      obtain ⟨KX2, F2, Kb2, Kr2, HP2, HQ2⟩ := hcut
      rename World => v2
      clear KX
      clear Kb Kr HP1 HQ1
      go_upto_region 7 with fail
      have ngr : ¬ g = g2 := by omega
      have nbr : ¬ g1 = g2 := by omega
      have lt_b := Kb2.out.lt
      obtain ⟨r_b0, r_b1, r_b2, r_b3, r_b4, r_b5, r_b6, r_b7, r_b8⟩ := bc9 Kb2.out
      have lt_x := KX2.out.lt
      have r_x0 : v2.cell? ⟨g, 0, none⟩ = some (.int .i64 ex) := KX2.out.cell 0
      have z_x0 := KX2.out.frozen 0
      have r_x1 : v2.cell? ⟨g, 1, none⟩ = some (.int .i64 et) := KX2.out.cell 1
      have z_x1 := KX2.out.frozen 1
      have r_x2 : v2.cell? ⟨g, 2, none⟩ = some (.slice A1 n1 c1) := KX2.out.cell 2
      have z_x2 := KX2.out.frozen 2
      have r_x3 : v2.cell? ⟨g, 3, none⟩ = some (.slice B1 m1 d1) := KX2.out.cell 3
      have z_x3 := KX2.out.frozen 3
      have r_x4 : v2.cell? ⟨g, 4, none⟩ = some (.int .i64 x0) := KX2.out.cell 4
      have z_x4 := KX2.out.frozen 4
      have r_x5 : v2.cell? ⟨g, 5, none⟩ = some (.int .i64 x1) := KX2.out.cell 5
      have z_x5 := KX2.out.frozen 5
      have r_x6 : v2.cell? ⟨g, 6, none⟩ = some (.int .i64 x2) := KX2.out.cell 6
      have z_x6 := KX2.out.frozen 6
      have lt_r := Kr2.out.lt
      have r_r0 : v2.cell? ⟨g2, 0, none⟩ = some (.int .i64 0) := Kr2.out.cell 0
      have z_r0 := Kr2.out.frozen 0
      have r_r1 : v2.cell? ⟨g2, 1, none⟩ = some (.int .i64 0) := Kr2.out.cell 1
      have z_r1 := Kr2.out.frozen 1
      have r_r2 : v2.cell? ⟨g2, 2, none⟩ = some (.slice none 0 0) := Kr2.out.cell 2
      have z_r2 := Kr2.out.frozen 2
      have r_r3 : v2.cell? ⟨g2, 3, none⟩ = some (.slice none 0 0) := Kr2.out.cell 3
      have z_r3 := Kr2.out.frozen 3
      have r_r4 : v2.cell? ⟨g2, 4, none⟩ = some (.int .i64 0) := Kr2.out.cell 4
      have z_r4 := Kr2.out.frozen 4
      have r_r5 : v2.cell? ⟨g2, 5, none⟩ = some (.int .i64 0) := Kr2.out.cell 5
      have z_r5 := Kr2.out.frozen 5
      have r_r6 : v2.cell? ⟨g2, 6, none⟩ = some (.int .i64 0) := Kr2.out.cell 6
      have z_r6 := Kr2.out.frozen 6
      have hS0 : ∀ b o, b < v2.heap.size → b ≠ g2 → v2.cell? ⟨b, o, none⟩ = v2.cell? ⟨b, o, none⟩ := fun b o hb hk => rfl
      go_region_held_law (fun w' => ∀ b o, b < v2.heap.size → b ≠ g2 → w'.cell? ⟨b, o, none⟩ = v2.cell? ⟨b, o, none⟩) (repeat' (first | with_reducible assumption | with_reducible exact hS0 | with_reducible refine hn_drew ?_ | with_reducible refine hn_set7 ?_ _ _ _ _ _ _ _)) (first | (go_at_call 42; refine (copyState_any A1 n1 c1 B1 m1 d1 ex et x0 x1 x2 p2 q2 _ (by first | with_reducible exact HP2.out | with_reducible exact Sl.drew HP2.out) (by first | with_reducible exact HQ2.out | with_reducible exact Sl.drew HQ2.out) HL1.out HR1.out (by have := HL1.out; omega) (by have := HR1.out; omega) HA1.out HB1.out).mono ?_; rintro e v3 ⟨A5, c5, B5, d5, rfl, R5, R6, hap, b3⟩; have E3 : Below v2.heap.size v2 v3 := (by first | with_reducible exact b3 | with_reducible exact tb_dr b3); have hS3 : ∀ b o, b < v2.heap.size → b ≠ g2 → v3.cell? ⟨b, o, none⟩ = v2.cell? ⟨b, o, none⟩ := fun b o hb hk => E3.cell (p := ⟨b, o, none⟩) hb; have Kr3 := Kr2.out.below E3; have yb0 := Kr3.cell 0; have yf0 := Kr3.frozen 0; have yb1 := Kr3.cell 1; have yf1 := Kr3.frozen 1; have yb2 := Kr3.cell 2; have yf2 := Kr3.frozen 2; have yb3 := Kr3.cell 3; have yf3 := Kr3.frozen 3; have yb4 := Kr3.cell 4; have yf4 := Kr3.frozen 4; have yb5 := Kr3.cell 5; have yf5 := Kr3.frozen 5; have yb6 := Kr3.cell 6; have yf6 := Kr3.frozen 6; have yl := Kr3.lt))
      all_goals
        go_wp21
        refine bodyPost_ret (v := .tuple #[.agg #[.int .i64 ex, .int .i64 et, .slice A5 n1 c5, .slice B5 m1 d5, .int .i64 x0, .int .i64 x1, .int .i64 x2], .int .i64 3]) (by simp [results, Tryz.results43, go_sem, *]) rfl ?_
        have h5 := R5.mono (show w.heap.size ≤ _ from F2.out.size)
        have h6 := R6.mono (show w.heap.size ≤ _ from F2.out.size)
        have n5 : ∀ a, A5 = some a → a.block ≠ g2 := fun a ha => by have := R5.ge a ha; (try simp at this); omega
        have n6 : ∀ a, B5 = some a → a.block ≠ g2 := fun a ha => by have := R6.ge a ha; (try simp at this); omega
        exact RetStateV.mk HL1.out HR1.out (row_far7 h5 n5 _ _ _ _ _ _ _) (row_far7 h6 n6 _ _ _ _ _ _ _) hap (below_far7 (bthen F2.out E3) (show w.heap.size ≤ g2 by omega) _ _ _ _ _ _ _)
end Go.Proofs.YtokklkmibjpjnaaGreat
namespace Go.Proofs.YtokklkmibjpjnaaGreat
set_option linter.unusedSimpArgs false
set_option linter.unusedVariables false
attribute [local go_sem] n_lt2 n_lt3 n_lt4 n_le2 n_le3
open Go.RowKit
attribute [local go_sem] Ext.cell Ext.frozen
set_option maxRecDepth 100000 in
set_option maxHeartbeats 8000000 in
theorem applied_yes4 (A : Option Addr) (n c : Nat) (B : Option Addr) (m d : Nat) (i0 t0 l0 l1 l2 : Int) (pl : List Pr) (ql : List Jb) (ex et ec es ea eb eg eh : Int) (w : World) (hP : Sl w 2 A n (PR pl)) (hQ : Sl w 5 B m (JB ql)) (hl : pl.length = n) (hr : ql.length = m) (hn : n ≤ 1000) (hm : m ≤ 1000) (hA : A = none → n = 0 ∧ c = 0) (hB : B = none → m = 0 ∧ d = 0) (p2 : List Pr) (q2 : List Jb) (h2 e2 u2 : Int) (hp2 : p2.length ≤ 1000) (hq2 : q2.length ≤ 1000) (hE : Hid (effE l0 l1 l2 pl ql ex et ec es 4 ea eb eg eh = (⟨p2, q2, h2, e2, u2⟩, true))) :
    Calls Tryz.prog 43 #[.agg #[.int .i64 i0, .int .i64 t0, .slice A n c, .slice B m d, .int .i64 l0, .int .i64 l1, .int .i64 l2], .agg #[.int .i64 ex, .int .i64 et, .int .i64 ec, .int .i64 es, .int .i64 4, .int .i64 ea, .int .i64 eb, .int .i64 eg, .int .i64 eh]] w (RetStateV w ex et h2 e2 u2 p2.length (PR p2) q2.length (JB q2) (.int .i64 4)) := by
  have HP := Lib.hid hP
  have HQ := Lib.hid hQ
  have HA := Lib.hid hA
  have HB := Lib.hid hB
  have hL := Lib.hid hl
  have hR := Lib.hid hr
  clear hP hQ hA hB hl hr
  go_enter Tryz.func43, Tryz.ntmps43
  go_upto_region 1 with fail
  obtain ⟨v0, hv0⟩ : ∃ x : World, x = (((w.alloc (.cells #[.int .i64 i0, .int .i64 t0, .slice A n c, .slice B m d, .int .i64 l0, .int .i64 l1, .int .i64 l2] 37)).alloc (.cells #[.int .i64 ex, .int .i64 et, .int .i64 ec, .int .i64 es, .int .i64 4, .int .i64 ea, .int .i64 eb, .int .i64 eg, .int .i64 eh] 43)).alloc (.cells #[.int .i64 0, .int .i64 0, .slice none 0 0, .slice none 0 0, .int .i64 0, .int .i64 0, .int .i64 0] 37)) := ⟨_, rfl⟩
  rw [← hv0]
  have f0 : Below w.heap.size w v0 := by rw [hv0]; (repeat' (first | (with_reducible exact Below.refl _ _) | (with_reducible assumption) | (with_reducible refine Below.alloc ?_ ?_ _) | (with_reducible refine Below.drew ?_) | (with_reducible refine Below.setCell ?_ ?_ _) | (with_reducible refine bstep (by assumption) ?_ ?_) | (with_reducible exact Nat.le_refl _) | omega | (simp [*]; done) | (simp [*]; omega)))
  have z0 : w.heap.size + 3 ≤ v0.heap.size := by rw [hv0]; simp [size_set]
  have HP_0 := Lib.hid (HP.out.below f0)
  have HP_lt := Lib.hid (fun hn => HP.out.lt hn)
  have HQ_0 := Lib.hid (HQ.out.below f0)
  have HQ_lt := Lib.hid (fun hn => HQ.out.lt hn)
  have Ha_0 : Hid (Blk v0 w.heap.size 37 #[.int .i64 i0, .int .i64 t0, .slice A n c, .slice B m d, .int .i64 l0, .int .i64 l1, .int .i64 l2]) := by rw [hv0]; exact ((Blk.new_at _ _ _ _ (by simp)).alloc _).alloc _
  have Hb_0 : Hid (Blk v0 (w.heap.size + 1) 43 #[.int .i64 ex, .int .i64 et, .int .i64 ec, .int .i64 es, .int .i64 4, .int .i64 ea, .int .i64 eb, .int .i64 eg, .int .i64 eh]) := by rw [hv0]; exact (Blk.new_at _ _ _ _ (by simp)).alloc _
  have Hr_0 : Hid (Blk v0 (w.heap.size + 1 + 1) 37 #[.int .i64 0, .int .i64 0, .slice none 0 0, .slice none 0 0, .int .i64 0, .int .i64 0, .int .i64 0]) := by rw [hv0]; exact Blk.new_at _ _ _ _ (by simp)
  clear hv0
  generalize hg2 : w.heap.size + 1 + 1 = g2 at *
  generalize hg1 : w.heap.size + 1 = g1 at *
  have lg1 : w.heap.size < g1 := by omega
  have lg2 : g1 < g2 := by omega
  have lgz : g2 < v0.heap.size := by omega
  have nq1x0 : ¬ g1 = w.heap.size := by omega
  have nq0x1 : ¬ w.heap.size = g1 := by omega
  have nq2x0 : ¬ g2 = w.heap.size := by omega
  have nq0x2 : ¬ w.heap.size = g2 := by omega
  have nq2x1 : ¬ g2 = g1 := by omega
  have nq1x2 : ¬ g1 = g2 := by omega
  clear hg1 hg2
  have lt_a := Ha_0.out.lt
  obtain ⟨r_a0, r_a1, r_a2, r_a3, r_a4, r_a5, r_a6⟩ := bc7 Ha_0.out
  have lt_b := Hb_0.out.lt
  obtain ⟨r_b0, r_b1, r_b2, r_b3, r_b4, r_b5, r_b6, r_b7, r_b8⟩ := bc9 Hb_0.out
  go_cut [6, 7] (fun pv ov wx => ∃ (g : Nat) (A1 : Option Addr) (n1 c1 : Nat) (B1 : Option Addr) (m1 d1 : Nat) (x0 x1 x2 : Int), pv = .pointer (some ⟨g, 0, none⟩) ∧ ov = .bool true ∧ g2 < g ∧ v0.heap.size ≤ g ∧ Hid (Blk wx g 37 #[.int .i64 i0, .int .i64 t0, .slice A1 n1 c1, .slice B1 m1 d1, .int .i64 x0, .int .i64 x1, .int .i64 x2]) ∧ Hid (Below v0.heap.size v0 wx) ∧ Hid (x0 = h2 ∧ x1 = e2 ∧ x2 = u2) ∧ Hid (Sl wx 2 A1 n1 (PR p2)) ∧ Hid (p2.length = n1) ∧ Hid (A1 = none → n1 = 0 ∧ c1 = 0) ∧ Hid (Sl wx 5 B1 m1 (JB q2)) ∧ Hid (q2.length = m1) ∧ Hid (B1 = none → m1 = 0 ∧ d1 = 0) ∧ Hid (0 < n1 → ∀ a, A1 = some a → a.block ≠ g) ∧ Hid (0 < m1 → ∀ a, B1 = some a → a.block ≠ g))
  case first =>
    have hnm : n ≤ maxLen := by unfold maxLen; omega
    have hmm : m ≤ maxLen := by unfold maxLen; omega
    have hS0 : ∀ b o, b < v0.heap.size → v0.cell? ⟨b, o, none⟩ = v0.cell? ⟨b, o, none⟩ := fun b o hb => rfl
    have ix : ∀ wz : World, (Instr.index 116 (.agg #[.nilFunc, .func (.func 97) #[] #[], .func (.func 99) #[] #[], .func (.func 101) #[] #[], .func (.func 103) #[] #[], .func (.func 107) #[] #[]]) (.int .i64 4)).run Tryz.prog wz = .ok (.func (.func 103) #[] #[]) wz := fun _ => by kernel_rfl
    go_region_held_law (fun w' => ∀ b o, b < v0.heap.size → w'.cell? ⟨b, o, none⟩ = v0.cell? ⟨b, o, none⟩) (repeat' (first | with_reducible assumption | with_reducible exact Nat.le_refl _ | with_reducible exact hS0 | with_reducible refine hl_drew ?_ | with_reducible refine hl_alloc ?_ ?_ _ | with_reducible refine hl_set7 ?_ ?_ _ _ _ _ _ _ _)) (first | (go_at_call 82; refine (effects_any _).mono ?_; rintro e u1 ⟨rfl, b1⟩; (first | (have KB : Blk u1 v0.heap.size 37 #[.int .i64 0, .int .i64 0, .slice none 0 0, .slice none 0 0, .int .i64 0, .int .i64 0, .int .i64 0] := by with_reducible exact t_below2 b1 (Blk.new_at _ _ _ _ rfl)) | (have KB : Blk u1 v0.heap.size 37 #[.int .i64 0, .int .i64 0, .slice none 0 0, .slice none 0 0, .int .i64 0, .int .i64 0, .int .i64 0] := by with_reducible exact t_below2 b1 (Blk.drew (Blk.new_at _ _ _ _ rfl))) | (have KB : Blk u1 v0.heap.size 37 #[.int .i64 0, .int .i64 0, .slice none 0 0, .slice none 0 0, .int .i64 0, .int .i64 0, .int .i64 0] := by with_reducible exact t_below2 b1 (Blk.new_at _ _ _ _ (t_drew_size _))) | (replace KB := t_below2 b1 KB) | (replace KB := t_below2 b1 (Blk.drew KB)) | skip); have E1 : Below v0.heap.size v0 u1 := (by first | with_reducible exact b1 | with_reducible exact tb_dr b1 | with_reducible exact tb_al b1 | with_reducible exact tb_da b1 | with_reducible exact tb_ad b1); have H1 := E1; have y1 := H1.size; have hS1 : ∀ b o, b < v0.heap.size → u1.cell? ⟨b, o, none⟩ = v0.cell? ⟨b, o, none⟩ := fun b o hb => H1.cell (p := ⟨b, o, none⟩) hb; have HPu := Lib.hid (HP_0.out.below E1); have HQu := Lib.hid (HQ_0.out.below E1)) | (go_at_call 103; refine (eff4_R A n c B m d i0 t0 l0 l1 l2 pl ql ex et ec es ea eb eg eh _ (by first | with_reducible exact HPu.out | with_reducible exact Sl.alloc HPu.out _) (by first | with_reducible exact HQu.out | with_reducible exact Sl.alloc HQu.out _) hL.out hR.out hnm hmm HA.out HB.out w.heap.size HP_lt.out HQ_lt.out p2 q2 h2 e2 u2 true hE).mono ?_; rintro e u2_ ⟨A1, n1, c1, B1, m1, d1, x0, x1, x2, rfl, b2, hx⟩; obtain ⟨hx0, hx1, hx2, hP1, hl1, hA1, hQ1, hr1, hB1, hL1, hL2⟩ := hx rfl; (first | (have KB : Blk u2_ u1.heap.size 37 #[.int .i64 0, .int .i64 0, .slice none 0 0, .slice none 0 0, .int .i64 0, .int .i64 0, .int .i64 0] := by with_reducible exact t_below2 b2 (Blk.new_at _ _ _ _ rfl)) | (have KB : Blk u2_ u1.heap.size 37 #[.int .i64 0, .int .i64 0, .slice none 0 0, .slice none 0 0, .int .i64 0, .int .i64 0, .int .i64 0] := by with_reducible exact t_below2 b2 (Blk.drew (Blk.new_at _ _ _ _ rfl))) | (have KB : Blk u2_ u1.heap.size 37 #[.int .i64 0, .int .i64 0, .slice none 0 0, .slice none 0 0, .int .i64 0, .int .i64 0, .int .i64 0] := by with_reducible exact t_below2 b2 (Blk.new_at _ _ _ _ (t_drew_size _))) | (replace KB := t_below2 b2 KB) | (replace KB := t_below2 b2 (Blk.drew KB)) | skip); have E2 : Below u1.heap.size u1 u2_ := (by first | with_reducible exact b2 | with_reducible exact tb_dr b2 | with_reducible exact tb_al b2 | with_reducible exact tb_da b2 | with_reducible exact tb_ad b2); have H2 := bthen H1 E2; have y2 := H2.size; have hS2 : ∀ b o, b < v0.heap.size → u2_.cell? ⟨b, o, none⟩ = v0.cell? ⟨b, o, none⟩ := fun b o hb => H2.cell (p := ⟨b, o, none⟩) hb; (try (have kb0 := KB.cell 0)); (try (have kf0 := KB.frozen 0)); (try (have kb1 := KB.cell 1)); (try (have kf1 := KB.frozen 1)); (try (have kb2 := KB.cell 2)); (try (have kf2 := KB.frozen 2)); (try (have kb3 := KB.cell 3)); (try (have kf3 := KB.frozen 3)); (try (have kb4 := KB.cell 4)); (try (have kf4 := KB.frozen 4)); (try (have kb5 := KB.cell 5)); (try (have kf5 := KB.frozen 5)); (try (have kb6 := KB.cell 6)); (try (have kf6 := KB.frozen 6)); (try (have kbl := KB.lt))))
    all_goals
      have s1 := b1.size
      have s2 := b2.size
      (try simp only [t_size_alloc, ← t_drew_size] at s1)
      (try simp only [t_size_alloc, ← t_drew_size] at s2)
      go_wp2_with fail
      go_meet
      first
        | (with_reducible refine ⟨u2_.heap.size, A1, n1, c1, B1, m1, d1, h2, e2, u2, rfl, rfl, ?_, ?_, ?_, ?_, ?_, ?_, ?_, ?_, ?_, ?_, ?_, ?_, ?_⟩
           · omega
           · omega
           · exact Lib.hid (Blk.new_at _ _ _ _ rfl)
           · exact Lib.hid (H2.alloc y2 _)
           · exact Lib.hid ⟨rfl, rfl, rfl⟩
           · exact Lib.hid (hP1.alloc _)
           · exact Lib.hid hl1
           · exact Lib.hid hA1
           · exact Lib.hid (hQ1.alloc _)
           · exact Lib.hid hr1
           · exact Lib.hid hB1
           · exact (Lib.hid (fun h0 a ha => by have hA := (hP1).lt h0 a ha; have hB := hL1 h0 a ha; have hC := lgz; (try simp only [t_size_alloc] at hB); omega))
           · exact (Lib.hid (fun h0 a ha => by have hA := (hQ1).lt h0 a ha; have hB := hL2 h0 a ha; have hC := lgz; (try simp only [t_size_alloc] at hB); omega)))
        | (with_reducible refine ⟨u1.heap.size, A1, n1, c1, B1, m1, d1, h2, e2, u2, rfl, rfl, ?_, ?_, ?_, ?_, ?_, ?_, ?_, ?_, ?_, ?_, ?_, ?_, ?_⟩
           · omega
           · omega
           · exact Lib.hid (((((((KB.set_ 0 _).set_ 1 _).set_ 2 _).set_ 3 _).set_ 4 _).set_ 5 _).set_ 6 _)
           · exact Lib.hid (below_far7 H2 (by omega) _ _ _ _ _ _ _)
           · exact Lib.hid ⟨rfl, rfl, rfl⟩
           · exact Lib.hid (sl_far7 hP1 (fun h0 a ha => by have hA := (hP1).lt h0 a ha; have hB := hL1 h0 a ha; have hC := lgz; (try simp only [t_size_alloc] at hB); omega) _ _ _ _ _ _ _)
           · exact Lib.hid hl1
           · exact Lib.hid hA1
           · exact Lib.hid (sl_far7 hQ1 (fun h0 a ha => by have hA := (hQ1).lt h0 a ha; have hB := hL2 h0 a ha; have hC := lgz; (try simp only [t_size_alloc] at hB); omega) _ _ _ _ _ _ _)
           · exact Lib.hid hr1
           · exact Lib.hid hB1
           · exact (Lib.hid (fun h0 a ha => by have hA := (hP1).lt h0 a ha; have hB := hL1 h0 a ha; have hC := lgz; (try simp only [t_size_alloc] at hB); omega))
           · exact (Lib.hid (fun h0 a ha => by have hA := (hQ1).lt h0 a ha; have hB := hL2 h0 a ha; have hC := lgz; (try simp only [t_size_alloc] at hB); omega)))
        | (with_reducible refine ⟨v0.heap.size, A1, n1, c1, B1, m1, d1, h2, e2, u2, rfl, rfl, ?_, ?_, ?_, ?_, ?_, ?_, ?_, ?_, ?_, ?_, ?_, ?_, ?_⟩
           · omega
           · omega
           · exact Lib.hid (((((((KB.set_ 0 _).set_ 1 _).set_ 2 _).set_ 3 _).set_ 4 _).set_ 5 _).set_ 6 _)
           · exact Lib.hid (below_far7 H2 (by omega) _ _ _ _ _ _ _)
           · exact Lib.hid ⟨rfl, rfl, rfl⟩
           · exact Lib.hid (sl_far7 hP1 (fun h0 a ha => by have hA := (hP1).lt h0 a ha; have hB := hL1 h0 a ha; have hC := lgz; (try simp only [t_size_alloc] at hB); omega) _ _ _ _ _ _ _)
           · exact Lib.hid hl1
           · exact Lib.hid hA1
           · exact Lib.hid (sl_far7 hQ1 (fun h0 a ha => by have hA := (hQ1).lt h0 a ha; have hB := hL2 h0 a ha; have hC := lgz; (try simp only [t_size_alloc] at hB); omega) _ _ _ _ _ _ _)
           · exact Lib.hid hr1
           · exact Lib.hid hB1
           · exact (Lib.hid (fun h0 a ha => by have hA := (hP1).lt h0 a ha; have hB := hL1 h0 a ha; have hC := lgz; (try simp only [t_size_alloc] at hB); omega))
           · exact (Lib.hid (fun h0 a ha => by have hA := (hQ1).lt h0 a ha; have hB := hL2 h0 a ha; have hC := lgz; (try simp only [t_size_alloc] at hB); omega)))
  case rest =>
    obtain ⟨g, A1, n1, c1, B1, m1, d1, x0, x1, x2, rfl, rfl, hg2, hgz, KX, E1, HX, HP1, HL1, HA1, HQ1, HR1, HB1, HN1, HN2⟩ := hcut
    rename World => v1
    obtain ⟨hx0, hx1, hx2⟩ := HX.out
    subst hx0 hx1 hx2
    clear HX
    clear lt_a r_a0 r_a1 r_a2 r_a3 r_a4 r_a5 r_a6 lt_b r_b0 r_b1 r_b2 r_b3 r_b4 r_b5 r_b6 r_b7 r_b8
    have F1 := Lib.hid (bthen f0 E1.out)
    have y1 := E1.out.size
    have Kb := Lib.hid (Hb_0.out.below E1.out)
    have Kr := Lib.hid (Hr_0.out.below E1.out)
    clear Ha_0 Hb_0 Hr_0 HP_0 HQ_0 HP_lt HQ_lt HP HQ HA HB hL hR
    go_upto_region 4 with fail
    have lt_b := Kb.out.lt
    obtain ⟨r_b0, r_b1, r_b2, r_b3, r_b4, r_b5, r_b6, r_b7, r_b8⟩ := bc9 Kb.out
    have lt_x := KX.out.lt
    have r_x0 : v1.cell? ⟨g, 0, none⟩ = some (.int .i64 i0) := KX.out.cell 0
    have z_x0 := KX.out.frozen 0
    have r_x1 : v1.cell? ⟨g, 1, none⟩ = some (.int .i64 t0) := KX.out.cell 1
    have z_x1 := KX.out.frozen 1
    have r_x2 : v1.cell? ⟨g, 2, none⟩ = some (.slice A1 n1 c1) := KX.out.cell 2
    have z_x2 := KX.out.frozen 2
    have r_x3 : v1.cell? ⟨g, 3, none⟩ = some (.slice B1 m1 d1) := KX.out.cell 3
    have z_x3 := KX.out.frozen 3
    have r_x4 : v1.cell? ⟨g, 4, none⟩ = some (.int .i64 x0) := KX.out.cell 4
    have z_x4 := KX.out.frozen 4
    have r_x5 : v1.cell? ⟨g, 5, none⟩ = some (.int .i64 x1) := KX.out.cell 5
    have z_x5 := KX.out.frozen 5
    have r_x6 : v1.cell? ⟨g, 6, none⟩ = some (.int .i64 x2) := KX.out.cell 6
    have z_x6 := KX.out.frozen 6
    have ngb : ¬ g = g1 := by omega
    have nbg : ¬ g1 = g := by omega
    go_cut [] (fun wx => Hid (Blk wx g 37 #[.int .i64 ex, .int .i64 et, .slice A1 n1 c1, .slice B1 m1 d1, .int .i64 x0, .int .i64 x1, .int .i64 x2]) ∧ Hid (Below w.heap.size w wx) ∧ Hid (Blk wx g1 43 #[.int .i64 ex, .int .i64 et, .int .i64 ec, .int .i64 es, .int .i64 4, .int .i64 ea, .int .i64 eb, .int .i64 eg, .int .i64 eh]) ∧ Hid (Blk wx g2 37 #[.int .i64 0, .int .i64 0, .slice none 0 0, .slice none 0 0, .int .i64 0, .int .i64 0, .int .i64 0]) ∧ Hid (Sl wx 2 A1 n1 (PR p2)) ∧ Hid (Sl wx 5 B1 m1 (JB q2)))
    case first =>
      have hS0 : ∀ b o, b < g → v1.cell? ⟨b, o, none⟩ = v1.cell? ⟨b, o, none⟩ := fun b o hb => rfl
      have lbg : g1 < g := by omega
      go_region_held_law (fun w' => ∀ b o, b < g → w'.cell? ⟨b, o, none⟩ = v1.cell? ⟨b, o, none⟩) (repeat' (first | with_reducible assumption | with_reducible exact Nat.le_refl _ | with_reducible exact hS0 | with_reducible refine hl_drew ?_ | with_reducible refine hl_set ?_ ?_ _ _)) (fail)
      all_goals
        go_wp2_with fail
        go_meet
        first
          | exact ⟨Lib.hid (((KX.out.drew).set_ 0 _).set_ 1 _), Lib.hid (((F1.out.drew).setCell (p := ⟨g, 0, none⟩) (by show w.heap.size ≤ g; omega) _).setCell (p := ⟨g, 1, none⟩) (by show w.heap.size ≤ g; omega) _), Lib.hid (((Kb.out.drew).far (p := ⟨g, 0, none⟩) (show g1 ≠ g by omega) _).far (p := ⟨g, 1, none⟩) (show g1 ≠ g by omega) _), Lib.hid (((Kr.out.drew).far (p := ⟨g, 0, none⟩) (show g2 ≠ g by omega) _).far (p := ⟨g, 1, none⟩) (show g2 ≠ g by omega) _), Lib.hid (((HP1.out.drew).far (p := ⟨g, 0, none⟩) (fun h0 a ha => HN1.out h0 a ha) _).far (p := ⟨g, 1, none⟩) (fun h0 a ha => HN1.out h0 a ha) _), Lib.hid (((HQ1.out.drew).far (p := ⟨g, 0, none⟩) (fun h0 a ha => HN2.out h0 a ha) _).far (p := ⟨g, 1, none⟩) (fun h0 a ha => HN2.out h0 a ha) _)⟩
          | exact ⟨Lib.hid (((KX.out.drew).set_ 1 _).set_ 0 _), Lib.hid (((F1.out.drew).setCell (p := ⟨g, 1, none⟩) (by show w.heap.size ≤ g; omega) _).setCell (p := ⟨g, 0, none⟩) (by show w.heap.size ≤ g; omega) _), Lib.hid (((Kb.out.drew).far (p := ⟨g, 1, none⟩) (show g1 ≠ g by omega) _).far (p := ⟨g, 0, none⟩) (show g1 ≠ g by omega) _), Lib.hid (((Kr.out.drew).far (p := ⟨g, 1, none⟩) (show g2 ≠ g by omega) _).far (p := ⟨g, 0, none⟩) (show g2 ≠ g by omega) _), Lib.hid (((HP1.out.drew).far (p := ⟨g, 1, none⟩) (fun h0 a ha => HN1.out h0 a ha) _).far (p := ⟨g, 0, none⟩) (fun h0 a ha => HN1.out h0 a ha) _), Lib.hid (((HQ1.out.drew).far (p := ⟨g, 1, none⟩) (fun h0 a ha => HN2.out h0 a ha) _).far (p := ⟨g, 0, none⟩) (fun h0 a ha => HN2.out h0 a ha) _)⟩
    case rest =>
      clear lt_b r_b0 r_b1 r_b2 r_b3 r_b4 r_b5 r_b6 r_b7 r_b8
      clear lt_x r_x0 z_x0 r_x1 z_x1 r_x2 z_x2 r_x3 z_x3 r_x4 z_x4 r_x5 z_x5 r_x6 z_x6
      obtain ⟨KX2, F2, Kb2, Kr2, HP2, HQ2⟩ := hcut
      rename World => v2
      clear KX
      clear Kb Kr HP1 HQ1
      go_upto_region 7 with fail
      have ngr : ¬ g = g2 := by omega
      have nbr : ¬ g1 = g2 := by omega
      have lt_b := Kb2.out.lt
      obtain ⟨r_b0, r_b1, r_b2, r_b3, r_b4, r_b5, r_b6, r_b7, r_b8⟩ := bc9 Kb2.out
      have lt_x := KX2.out.lt
      have r_x0 : v2.cell? ⟨g, 0, none⟩ = some (.int .i64 ex) := KX2.out.cell 0
      have z_x0 := KX2.out.frozen 0
      have r_x1 : v2.cell? ⟨g, 1, none⟩ = some (.int .i64 et) := KX2.out.cell 1
      have z_x1 := KX2.out.frozen 1
      have r_x2 : v2.cell? ⟨g, 2, none⟩ = some (.slice A1 n1 c1) := KX2.out.cell 2
      have z_x2 := KX2.out.frozen 2
      have r_x3 : v2.cell? ⟨g, 3, none⟩ = some (.slice B1 m1 d1) := KX2.out.cell 3
      have z_x3 := KX2.out.frozen 3
      have r_x4 : v2.cell? ⟨g, 4, none⟩ = some (.int .i64 x0) := KX2.out.cell 4
      have z_x4 := KX2.out.frozen 4
      have r_x5 : v2.cell? ⟨g, 5, none⟩ = some (.int .i64 x1) := KX2.out.cell 5
      have z_x5 := KX2.out.frozen 5
      have r_x6 : v2.cell? ⟨g, 6, none⟩ = some (.int .i64 x2) := KX2.out.cell 6
      have z_x6 := KX2.out.frozen 6
      have lt_r := Kr2.out.lt
      have r_r0 : v2.cell? ⟨g2, 0, none⟩ = some (.int .i64 0) := Kr2.out.cell 0
      have z_r0 := Kr2.out.frozen 0
      have r_r1 : v2.cell? ⟨g2, 1, none⟩ = some (.int .i64 0) := Kr2.out.cell 1
      have z_r1 := Kr2.out.frozen 1
      have r_r2 : v2.cell? ⟨g2, 2, none⟩ = some (.slice none 0 0) := Kr2.out.cell 2
      have z_r2 := Kr2.out.frozen 2
      have r_r3 : v2.cell? ⟨g2, 3, none⟩ = some (.slice none 0 0) := Kr2.out.cell 3
      have z_r3 := Kr2.out.frozen 3
      have r_r4 : v2.cell? ⟨g2, 4, none⟩ = some (.int .i64 0) := Kr2.out.cell 4
      have z_r4 := Kr2.out.frozen 4
      have r_r5 : v2.cell? ⟨g2, 5, none⟩ = some (.int .i64 0) := Kr2.out.cell 5
      have z_r5 := Kr2.out.frozen 5
      have r_r6 : v2.cell? ⟨g2, 6, none⟩ = some (.int .i64 0) := Kr2.out.cell 6
      have z_r6 := Kr2.out.frozen 6
      have hS0 : ∀ b o, b < v2.heap.size → b ≠ g2 → v2.cell? ⟨b, o, none⟩ = v2.cell? ⟨b, o, none⟩ := fun b o hb hk => rfl
      go_region_held_law (fun w' => ∀ b o, b < v2.heap.size → b ≠ g2 → w'.cell? ⟨b, o, none⟩ = v2.cell? ⟨b, o, none⟩) (repeat' (first | with_reducible assumption | with_reducible exact hS0 | with_reducible refine hn_drew ?_ | with_reducible refine hn_set7 ?_ _ _ _ _ _ _ _)) (first | (go_at_call 42; refine (copyState_any A1 n1 c1 B1 m1 d1 ex et x0 x1 x2 p2 q2 _ (by first | with_reducible exact HP2.out | with_reducible exact Sl.drew HP2.out) (by first | with_reducible exact HQ2.out | with_reducible exact Sl.drew HQ2.out) HL1.out HR1.out (by have := HL1.out; omega) (by have := HR1.out; omega) HA1.out HB1.out).mono ?_; rintro e v3 ⟨A5, c5, B5, d5, rfl, R5, R6, hap, b3⟩; have E3 : Below v2.heap.size v2 v3 := (by first | with_reducible exact b3 | with_reducible exact tb_dr b3); have hS3 : ∀ b o, b < v2.heap.size → b ≠ g2 → v3.cell? ⟨b, o, none⟩ = v2.cell? ⟨b, o, none⟩ := fun b o hb hk => E3.cell (p := ⟨b, o, none⟩) hb; have Kr3 := Kr2.out.below E3; have yb0 := Kr3.cell 0; have yf0 := Kr3.frozen 0; have yb1 := Kr3.cell 1; have yf1 := Kr3.frozen 1; have yb2 := Kr3.cell 2; have yf2 := Kr3.frozen 2; have yb3 := Kr3.cell 3; have yf3 := Kr3.frozen 3; have yb4 := Kr3.cell 4; have yf4 := Kr3.frozen 4; have yb5 := Kr3.cell 5; have yf5 := Kr3.frozen 5; have yb6 := Kr3.cell 6; have yf6 := Kr3.frozen 6; have yl := Kr3.lt))
      all_goals
        go_wp21
        refine bodyPost_ret (v := .tuple #[.agg #[.int .i64 ex, .int .i64 et, .slice A5 n1 c5, .slice B5 m1 d5, .int .i64 x0, .int .i64 x1, .int .i64 x2], .int .i64 4]) (by simp [results, Tryz.results43, go_sem, *]) rfl ?_
        have h5 := R5.mono (show w.heap.size ≤ _ from F2.out.size)
        have h6 := R6.mono (show w.heap.size ≤ _ from F2.out.size)
        have n5 : ∀ a, A5 = some a → a.block ≠ g2 := fun a ha => by have := R5.ge a ha; (try simp at this); omega
        have n6 : ∀ a, B5 = some a → a.block ≠ g2 := fun a ha => by have := R6.ge a ha; (try simp at this); omega
        exact RetStateV.mk HL1.out HR1.out (row_far7 h5 n5 _ _ _ _ _ _ _) (row_far7 h6 n6 _ _ _ _ _ _ _) hap (below_far7 (bthen F2.out E3) (show w.heap.size ≤ g2 by omega) _ _ _ _ _ _ _)
end Go.Proofs.YtokklkmibjpjnaaGreat
namespace Go.Proofs.YtokklkmibjpjnaaGreat
set_option linter.unusedSimpArgs false
set_option linter.unusedVariables false
attribute [local go_sem] n_lt2 n_lt3 n_lt4 n_le2 n_le3
open Go.RowKit
attribute [local go_sem] Ext.cell Ext.frozen
set_option maxRecDepth 100000 in
set_option maxHeartbeats 8000000 in
theorem applied_yes5 (A : Option Addr) (n c : Nat) (B : Option Addr) (m d : Nat) (i0 t0 l0 l1 l2 : Int) (pl : List Pr) (ql : List Jb) (ex et ec es ea eb eg eh : Int) (w : World) (hP : Sl w 2 A n (PR pl)) (hQ : Sl w 5 B m (JB ql)) (hl : pl.length = n) (hr : ql.length = m) (hn : n ≤ 1000) (hm : m ≤ 1000) (hA : A = none → n = 0 ∧ c = 0) (hB : B = none → m = 0 ∧ d = 0) (p2 : List Pr) (q2 : List Jb) (h2 e2 u2 : Int) (hp2 : p2.length ≤ 1000) (hq2 : q2.length ≤ 1000) (hE : Hid (effE l0 l1 l2 pl ql ex et ec es 5 ea eb eg eh = (⟨p2, q2, h2, e2, u2⟩, true))) :
    Calls Tryz.prog 43 #[.agg #[.int .i64 i0, .int .i64 t0, .slice A n c, .slice B m d, .int .i64 l0, .int .i64 l1, .int .i64 l2], .agg #[.int .i64 ex, .int .i64 et, .int .i64 ec, .int .i64 es, .int .i64 5, .int .i64 ea, .int .i64 eb, .int .i64 eg, .int .i64 eh]] w (RetStateV w ex et h2 e2 u2 p2.length (PR p2) q2.length (JB q2) (.int .i64 5)) := by
  have HP := Lib.hid hP
  have HQ := Lib.hid hQ
  have HA := Lib.hid hA
  have HB := Lib.hid hB
  have hL := Lib.hid hl
  have hR := Lib.hid hr
  clear hP hQ hA hB hl hr
  go_enter Tryz.func43, Tryz.ntmps43
  go_upto_region 1 with fail
  obtain ⟨v0, hv0⟩ : ∃ x : World, x = (((w.alloc (.cells #[.int .i64 i0, .int .i64 t0, .slice A n c, .slice B m d, .int .i64 l0, .int .i64 l1, .int .i64 l2] 37)).alloc (.cells #[.int .i64 ex, .int .i64 et, .int .i64 ec, .int .i64 es, .int .i64 5, .int .i64 ea, .int .i64 eb, .int .i64 eg, .int .i64 eh] 43)).alloc (.cells #[.int .i64 0, .int .i64 0, .slice none 0 0, .slice none 0 0, .int .i64 0, .int .i64 0, .int .i64 0] 37)) := ⟨_, rfl⟩
  rw [← hv0]
  have f0 : Below w.heap.size w v0 := by rw [hv0]; (repeat' (first | (with_reducible exact Below.refl _ _) | (with_reducible assumption) | (with_reducible refine Below.alloc ?_ ?_ _) | (with_reducible refine Below.drew ?_) | (with_reducible refine Below.setCell ?_ ?_ _) | (with_reducible refine bstep (by assumption) ?_ ?_) | (with_reducible exact Nat.le_refl _) | omega | (simp [*]; done) | (simp [*]; omega)))
  have z0 : w.heap.size + 3 ≤ v0.heap.size := by rw [hv0]; simp [size_set]
  have HP_0 := Lib.hid (HP.out.below f0)
  have HP_lt := Lib.hid (fun hn => HP.out.lt hn)
  have HQ_0 := Lib.hid (HQ.out.below f0)
  have HQ_lt := Lib.hid (fun hn => HQ.out.lt hn)
  have Ha_0 : Hid (Blk v0 w.heap.size 37 #[.int .i64 i0, .int .i64 t0, .slice A n c, .slice B m d, .int .i64 l0, .int .i64 l1, .int .i64 l2]) := by rw [hv0]; exact ((Blk.new_at _ _ _ _ (by simp)).alloc _).alloc _
  have Hb_0 : Hid (Blk v0 (w.heap.size + 1) 43 #[.int .i64 ex, .int .i64 et, .int .i64 ec, .int .i64 es, .int .i64 5, .int .i64 ea, .int .i64 eb, .int .i64 eg, .int .i64 eh]) := by rw [hv0]; exact (Blk.new_at _ _ _ _ (by simp)).alloc _
  have Hr_0 : Hid (Blk v0 (w.heap.size + 1 + 1) 37 #[.int .i64 0, .int .i64 0, .slice none 0 0, .slice none 0 0, .int .i64 0, .int .i64 0, .int .i64 0]) := by rw [hv0]; exact Blk.new_at _ _ _ _ (by simp)
  clear hv0
  generalize hg2 : w.heap.size + 1 + 1 = g2 at *
  generalize hg1 : w.heap.size + 1 = g1 at *
  have lg1 : w.heap.size < g1 := by omega
  have lg2 : g1 < g2 := by omega
  have lgz : g2 < v0.heap.size := by omega
  have nq1x0 : ¬ g1 = w.heap.size := by omega
  have nq0x1 : ¬ w.heap.size = g1 := by omega
  have nq2x0 : ¬ g2 = w.heap.size := by omega
  have nq0x2 : ¬ w.heap.size = g2 := by omega
  have nq2x1 : ¬ g2 = g1 := by omega
  have nq1x2 : ¬ g1 = g2 := by omega
  clear hg1 hg2
  have lt_a := Ha_0.out.lt
  obtain ⟨r_a0, r_a1, r_a2, r_a3, r_a4, r_a5, r_a6⟩ := bc7 Ha_0.out
  have lt_b := Hb_0.out.lt
  obtain ⟨r_b0, r_b1, r_b2, r_b3, r_b4, r_b5, r_b6, r_b7, r_b8⟩ := bc9 Hb_0.out
  go_cut [6, 7] (fun pv ov wx => ∃ (g : Nat) (A1 : Option Addr) (n1 c1 : Nat) (B1 : Option Addr) (m1 d1 : Nat) (x0 x1 x2 : Int), pv = .pointer (some ⟨g, 0, none⟩) ∧ ov = .bool true ∧ g2 < g ∧ v0.heap.size ≤ g ∧ Hid (Blk wx g 37 #[.int .i64 i0, .int .i64 t0, .slice A1 n1 c1, .slice B1 m1 d1, .int .i64 x0, .int .i64 x1, .int .i64 x2]) ∧ Hid (Below v0.heap.size v0 wx) ∧ Hid (x0 = h2 ∧ x1 = e2 ∧ x2 = u2) ∧ Hid (Sl wx 2 A1 n1 (PR p2)) ∧ Hid (p2.length = n1) ∧ Hid (A1 = none → n1 = 0 ∧ c1 = 0) ∧ Hid (Sl wx 5 B1 m1 (JB q2)) ∧ Hid (q2.length = m1) ∧ Hid (B1 = none → m1 = 0 ∧ d1 = 0) ∧ Hid (0 < n1 → ∀ a, A1 = some a → a.block ≠ g) ∧ Hid (0 < m1 → ∀ a, B1 = some a → a.block ≠ g))
  case first =>
    have hnm : n ≤ maxLen := by unfold maxLen; omega
    have hmm : m ≤ maxLen := by unfold maxLen; omega
    have hS0 : ∀ b o, b < v0.heap.size → v0.cell? ⟨b, o, none⟩ = v0.cell? ⟨b, o, none⟩ := fun b o hb => rfl
    have ix : ∀ wz : World, (Instr.index 116 (.agg #[.nilFunc, .func (.func 97) #[] #[], .func (.func 99) #[] #[], .func (.func 101) #[] #[], .func (.func 103) #[] #[], .func (.func 107) #[] #[]]) (.int .i64 5)).run Tryz.prog wz = .ok (.func (.func 107) #[] #[]) wz := fun _ => by kernel_rfl
    go_region_held_law (fun w' => ∀ b o, b < v0.heap.size → w'.cell? ⟨b, o, none⟩ = v0.cell? ⟨b, o, none⟩) (repeat' (first | with_reducible assumption | with_reducible exact Nat.le_refl _ | with_reducible exact hS0 | with_reducible refine hl_drew ?_ | with_reducible refine hl_alloc ?_ ?_ _ | with_reducible refine hl_set7 ?_ ?_ _ _ _ _ _ _ _)) (first | (go_at_call 82; refine (effects_any _).mono ?_; rintro e u1 ⟨rfl, b1⟩; (first | (have KB : Blk u1 v0.heap.size 37 #[.int .i64 0, .int .i64 0, .slice none 0 0, .slice none 0 0, .int .i64 0, .int .i64 0, .int .i64 0] := by with_reducible exact t_below2 b1 (Blk.new_at _ _ _ _ rfl)) | (have KB : Blk u1 v0.heap.size 37 #[.int .i64 0, .int .i64 0, .slice none 0 0, .slice none 0 0, .int .i64 0, .int .i64 0, .int .i64 0] := by with_reducible exact t_below2 b1 (Blk.drew (Blk.new_at _ _ _ _ rfl))) | (have KB : Blk u1 v0.heap.size 37 #[.int .i64 0, .int .i64 0, .slice none 0 0, .slice none 0 0, .int .i64 0, .int .i64 0, .int .i64 0] := by with_reducible exact t_below2 b1 (Blk.new_at _ _ _ _ (t_drew_size _))) | (replace KB := t_below2 b1 KB) | (replace KB := t_below2 b1 (Blk.drew KB)) | skip); have E1 : Below v0.heap.size v0 u1 := (by first | with_reducible exact b1 | with_reducible exact tb_dr b1 | with_reducible exact tb_al b1 | with_reducible exact tb_da b1 | with_reducible exact tb_ad b1); have H1 := E1; have y1 := H1.size; have hS1 : ∀ b o, b < v0.heap.size → u1.cell? ⟨b, o, none⟩ = v0.cell? ⟨b, o, none⟩ := fun b o hb => H1.cell (p := ⟨b, o, none⟩) hb; have HPu := Lib.hid (HP_0.out.below E1); have HQu := Lib.hid (HQ_0.out.below E1)) | (go_at_call 107; refine (eff5_R A n c B m d i0 t0 l0 l1 l2 pl ql ex et ec es ea eb eg eh _ (by first | with_reducible exact HPu.out | with_reducible exact Sl.alloc HPu.out _) (by first | with_reducible exact HQu.out | with_reducible exact Sl.alloc HQu.out _) hL.out hR.out hnm hmm HA.out HB.out w.heap.size HP_lt.out HQ_lt.out p2 q2 h2 e2 u2 true hE).mono ?_; rintro e u2_ ⟨A1, n1, c1, B1, m1, d1, x0, x1, x2, rfl, b2, hx⟩; obtain ⟨hx0, hx1, hx2, hP1, hl1, hA1, hQ1, hr1, hB1, hL1, hL2⟩ := hx rfl; (first | (have KB : Blk u2_ u1.heap.size 37 #[.int .i64 0, .int .i64 0, .slice none 0 0, .slice none 0 0, .int .i64 0, .int .i64 0, .int .i64 0] := by with_reducible exact t_below2 b2 (Blk.new_at _ _ _ _ rfl)) | (have KB : Blk u2_ u1.heap.size 37 #[.int .i64 0, .int .i64 0, .slice none 0 0, .slice none 0 0, .int .i64 0, .int .i64 0, .int .i64 0] := by with_reducible exact t_below2 b2 (Blk.drew (Blk.new_at _ _ _ _ rfl))) | (have KB : Blk u2_ u1.heap.size 37 #[.int .i64 0, .int .i64 0, .slice none 0 0, .slice none 0 0, .int .i64 0, .int .i64 0, .int .i64 0] := by with_reducible exact t_below2 b2 (Blk.new_at _ _ _ _ (t_drew_size _))) | (replace KB := t_below2 b2 KB) | (replace KB := t_below2 b2 (Blk.drew KB)) | skip); have E2 : Below u1.heap.size u1 u2_ := (by first | with_reducible exact b2 | with_reducible exact tb_dr b2 | with_reducible exact tb_al b2 | with_reducible exact tb_da b2 | with_reducible exact tb_ad b2); have H2 := bthen H1 E2; have y2 := H2.size; have hS2 : ∀ b o, b < v0.heap.size → u2_.cell? ⟨b, o, none⟩ = v0.cell? ⟨b, o, none⟩ := fun b o hb => H2.cell (p := ⟨b, o, none⟩) hb; (try (have kb0 := KB.cell 0)); (try (have kf0 := KB.frozen 0)); (try (have kb1 := KB.cell 1)); (try (have kf1 := KB.frozen 1)); (try (have kb2 := KB.cell 2)); (try (have kf2 := KB.frozen 2)); (try (have kb3 := KB.cell 3)); (try (have kf3 := KB.frozen 3)); (try (have kb4 := KB.cell 4)); (try (have kf4 := KB.frozen 4)); (try (have kb5 := KB.cell 5)); (try (have kf5 := KB.frozen 5)); (try (have kb6 := KB.cell 6)); (try (have kf6 := KB.frozen 6)); (try (have kbl := KB.lt))))
    all_goals
      have s1 := b1.size
      have s2 := b2.size
      (try simp only [t_size_alloc, ← t_drew_size] at s1)
      (try simp only [t_size_alloc, ← t_drew_size] at s2)
      go_wp2_with fail
      go_meet
      first
        | (with_reducible refine ⟨u2_.heap.size, A1, n1, c1, B1, m1, d1, h2, e2, u2, rfl, rfl, ?_, ?_, ?_, ?_, ?_, ?_, ?_, ?_, ?_, ?_, ?_, ?_, ?_⟩
           · omega
           · omega
           · exact Lib.hid (Blk.new_at _ _ _ _ rfl)
           · exact Lib.hid (H2.alloc y2 _)
           · exact Lib.hid ⟨rfl, rfl, rfl⟩
           · exact Lib.hid (hP1.alloc _)
           · exact Lib.hid hl1
           · exact Lib.hid hA1
           · exact Lib.hid (hQ1.alloc _)
           · exact Lib.hid hr1
           · exact Lib.hid hB1
           · exact (Lib.hid (fun h0 a ha => by have hA := (hP1).lt h0 a ha; have hB := hL1 h0 a ha; have hC := lgz; (try simp only [t_size_alloc] at hB); omega))
           · exact (Lib.hid (fun h0 a ha => by have hA := (hQ1).lt h0 a ha; have hB := hL2 h0 a ha; have hC := lgz; (try simp only [t_size_alloc] at hB); omega)))
        | (with_reducible refine ⟨u1.heap.size, A1, n1, c1, B1, m1, d1, h2, e2, u2, rfl, rfl, ?_, ?_, ?_, ?_, ?_, ?_, ?_, ?_, ?_, ?_, ?_, ?_, ?_⟩
           · omega
           · omega
           · exact Lib.hid (((((((KB.set_ 0 _).set_ 1 _).set_ 2 _).set_ 3 _).set_ 4 _).set_ 5 _).set_ 6 _)
           · exact Lib.hid (below_far7 H2 (by omega) _ _ _ _ _ _ _)
           · exact Lib.hid ⟨rfl, rfl, rfl⟩
           · exact Lib.hid (sl_far7 hP1 (fun h0 a ha => by have hA := (hP1).lt h0 a ha; have hB := hL1 h0 a ha; have hC := lgz; (try simp only [t_size_alloc] at hB); omega) _ _ _ _ _ _ _)
           · exact Lib.hid hl1
           · exact Lib.hid hA1
           · exact Lib.hid (sl_far7 hQ1 (fun h0 a ha => by have hA := (hQ1).lt h0 a ha; have hB := hL2 h0 a ha; have hC := lgz; (try simp only [t_size_alloc] at hB); omega) _ _ _ _ _ _ _)
           · exact Lib.hid hr1
           · exact Lib.hid hB1
           · exact (Lib.hid (fun h0 a ha => by have hA := (hP1).lt h0 a ha; have hB := hL1 h0 a ha; have hC := lgz; (try simp only [t_size_alloc] at hB); omega))
           · exact (Lib.hid (fun h0 a ha => by have hA := (hQ1).lt h0 a ha; have hB := hL2 h0 a ha; have hC := lgz; (try simp only [t_size_alloc] at hB); omega)))
        | (with_reducible refine ⟨v0.heap.size, A1, n1, c1, B1, m1, d1, h2, e2, u2, rfl, rfl, ?_, ?_, ?_, ?_, ?_, ?_, ?_, ?_, ?_, ?_, ?_, ?_, ?_⟩
           · omega
           · omega
           · exact Lib.hid (((((((KB.set_ 0 _).set_ 1 _).set_ 2 _).set_ 3 _).set_ 4 _).set_ 5 _).set_ 6 _)
           · exact Lib.hid (below_far7 H2 (by omega) _ _ _ _ _ _ _)
           · exact Lib.hid ⟨rfl, rfl, rfl⟩
           · exact Lib.hid (sl_far7 hP1 (fun h0 a ha => by have hA := (hP1).lt h0 a ha; have hB := hL1 h0 a ha; have hC := lgz; (try simp only [t_size_alloc] at hB); omega) _ _ _ _ _ _ _)
           · exact Lib.hid hl1
           · exact Lib.hid hA1
           · exact Lib.hid (sl_far7 hQ1 (fun h0 a ha => by have hA := (hQ1).lt h0 a ha; have hB := hL2 h0 a ha; have hC := lgz; (try simp only [t_size_alloc] at hB); omega) _ _ _ _ _ _ _)
           · exact Lib.hid hr1
           · exact Lib.hid hB1
           · exact (Lib.hid (fun h0 a ha => by have hA := (hP1).lt h0 a ha; have hB := hL1 h0 a ha; have hC := lgz; (try simp only [t_size_alloc] at hB); omega))
           · exact (Lib.hid (fun h0 a ha => by have hA := (hQ1).lt h0 a ha; have hB := hL2 h0 a ha; have hC := lgz; (try simp only [t_size_alloc] at hB); omega)))
  case rest =>
    obtain ⟨g, A1, n1, c1, B1, m1, d1, x0, x1, x2, rfl, rfl, hg2, hgz, KX, E1, HX, HP1, HL1, HA1, HQ1, HR1, HB1, HN1, HN2⟩ := hcut
    rename World => v1
    obtain ⟨hx0, hx1, hx2⟩ := HX.out
    subst hx0 hx1 hx2
    clear HX
    clear lt_a r_a0 r_a1 r_a2 r_a3 r_a4 r_a5 r_a6 lt_b r_b0 r_b1 r_b2 r_b3 r_b4 r_b5 r_b6 r_b7 r_b8
    have F1 := Lib.hid (bthen f0 E1.out)
    have y1 := E1.out.size
    have Kb := Lib.hid (Hb_0.out.below E1.out)
    have Kr := Lib.hid (Hr_0.out.below E1.out)
    clear Ha_0 Hb_0 Hr_0 HP_0 HQ_0 HP_lt HQ_lt HP HQ HA HB hL hR
    go_upto_region 4 with fail
    have lt_b := Kb.out.lt
    obtain ⟨r_b0, r_b1, r_b2, r_b3, r_b4, r_b5, r_b6, r_b7, r_b8⟩ := bc9 Kb.out
    have lt_x := KX.out.lt
    have r_x0 : v1.cell? ⟨g, 0, none⟩ = some (.int .i64 i0) := KX.out.cell 0
    have z_x0 := KX.out.frozen 0
    have r_x1 : v1.cell? ⟨g, 1, none⟩ = some (.int .i64 t0) := KX.out.cell 1
    have z_x1 := KX.out.frozen 1
    have r_x2 : v1.cell? ⟨g, 2, none⟩ = some (.slice A1 n1 c1) := KX.out.cell 2
    have z_x2 := KX.out.frozen 2
    have r_x3 : v1.cell? ⟨g, 3, none⟩ = some (.slice B1 m1 d1) := KX.out.cell 3
    have z_x3 := KX.out.frozen 3
    have r_x4 : v1.cell? ⟨g, 4, none⟩ = some (.int .i64 x0) := KX.out.cell 4
    have z_x4 := KX.out.frozen 4
    have r_x5 : v1.cell? ⟨g, 5, none⟩ = some (.int .i64 x1) := KX.out.cell 5
    have z_x5 := KX.out.frozen 5
    have r_x6 : v1.cell? ⟨g, 6, none⟩ = some (.int .i64 x2) := KX.out.cell 6
    have z_x6 := KX.out.frozen 6
    have ngb : ¬ g = g1 := by omega
    have nbg : ¬ g1 = g := by omega
    go_cut [] (fun wx => Hid (Blk wx g 37 #[.int .i64 ex, .int .i64 et, .slice A1 n1 c1, .slice B1 m1 d1, .int .i64 x0, .int .i64 x1, .int .i64 x2]) ∧ Hid (Below w.heap.size w wx) ∧ Hid (Blk wx g1 43 #[.int .i64 ex, .int .i64 et, .int .i64 ec, .int .i64 es, .int .i64 5, .int .i64 ea, .int .i64 eb, .int .i64 eg, .int .i64 eh]) ∧ Hid (Blk wx g2 37 #[.int .i64 0, .int .i64 0, .slice none 0 0, .slice none 0 0, .int .i64 0, .int .i64 0, .int .i64 0]) ∧ Hid (Sl wx 2 A1 n1 (PR p2)) ∧ Hid (Sl wx 5 B1 m1 (JB q2)))
    case first =>
      have hS0 : ∀ b o, b < g → v1.cell? ⟨b, o, none⟩ = v1.cell? ⟨b, o, none⟩ := fun b o hb => rfl
      have lbg : g1 < g := by omega
      go_region_held_law (fun w' => ∀ b o, b < g → w'.cell? ⟨b, o, none⟩ = v1.cell? ⟨b, o, none⟩) (repeat' (first | with_reducible assumption | with_reducible exact Nat.le_refl _ | with_reducible exact hS0 | with_reducible refine hl_drew ?_ | with_reducible refine hl_set ?_ ?_ _ _)) (fail)
      all_goals
        go_wp2_with fail
        go_meet
        first
          | exact ⟨Lib.hid (((KX.out.drew).set_ 0 _).set_ 1 _), Lib.hid (((F1.out.drew).setCell (p := ⟨g, 0, none⟩) (by show w.heap.size ≤ g; omega) _).setCell (p := ⟨g, 1, none⟩) (by show w.heap.size ≤ g; omega) _), Lib.hid (((Kb.out.drew).far (p := ⟨g, 0, none⟩) (show g1 ≠ g by omega) _).far (p := ⟨g, 1, none⟩) (show g1 ≠ g by omega) _), Lib.hid (((Kr.out.drew).far (p := ⟨g, 0, none⟩) (show g2 ≠ g by omega) _).far (p := ⟨g, 1, none⟩) (show g2 ≠ g by omega) _), Lib.hid (((HP1.out.drew).far (p := ⟨g, 0, none⟩) (fun h0 a ha => HN1.out h0 a ha) _).far (p := ⟨g, 1, none⟩) (fun h0 a ha => HN1.out h0 a ha) _), Lib.hid (((HQ1.out.drew).far (p := ⟨g, 0, none⟩) (fun h0 a ha => HN2.out h0 a ha) _).far (p := ⟨g, 1, none⟩) (fun h0 a ha => HN2.out h0 a ha) _)⟩
          | exact ⟨Lib.hid (((KX.out.drew).set_ 1 _).set_ 0 _), Lib.hid (((F1.out.drew).setCell (p := ⟨g, 1, none⟩) (by show w.heap.size ≤ g; omega) _).setCell (p := ⟨g, 0, none⟩) (by show w.heap.size ≤ g; omega) _), Lib.hid (((Kb.out.drew).far (p := ⟨g, 1, none⟩) (show g1 ≠ g by omega) _).far (p := ⟨g, 0, none⟩) (show g1 ≠ g by omega) _), Lib.hid (((Kr.out.drew).far (p := ⟨g, 1, none⟩) (show g2 ≠ g by omega) _).far (p := ⟨g, 0, none⟩) (show g2 ≠ g by omega) _), Lib.hid (((HP1.out.drew).far (p := ⟨g, 1, none⟩) (fun h0 a ha => HN1.out h0 a ha) _).far (p := ⟨g, 0, none⟩) (fun h0 a ha => HN1.out h0 a ha) _), Lib.hid (((HQ1.out.drew).far (p := ⟨g, 1, none⟩) (fun h0 a ha => HN2.out h0 a ha) _).far (p := ⟨g, 0, none⟩) (fun h0 a ha => HN2.out h0 a ha) _)⟩
    case rest =>
      clear lt_b r_b0 r_b1 r_b2 r_b3 r_b4 r_b5 r_b6 r_b7 r_b8
      clear lt_x r_x0 z_x0 r_x1 z_x1 r_x2 z_x2 r_x3 z_x3 r_x4 z_x4 r_x5 z_x5 r_x6 z_x6
      obtain ⟨KX2, F2, Kb2, Kr2, HP2, HQ2⟩ := hcut
      rename World => v2
      clear KX
      clear Kb Kr HP1 HQ1
      go_upto_region 7 with fail
      have ngr : ¬ g = g2 := by omega
      have nbr : ¬ g1 = g2 := by omega
      have lt_b := Kb2.out.lt
      obtain ⟨r_b0, r_b1, r_b2, r_b3, r_b4, r_b5, r_b6, r_b7, r_b8⟩ := bc9 Kb2.out
      have lt_x := KX2.out.lt
      have r_x0 : v2.cell? ⟨g, 0, none⟩ = some (.int .i64 ex) := KX2.out.cell 0
      have z_x0 := KX2.out.frozen 0
      have r_x1 : v2.cell? ⟨g, 1, none⟩ = some (.int .i64 et) := KX2.out.cell 1
      have z_x1 := KX2.out.frozen 1
      have r_x2 : v2.cell? ⟨g, 2, none⟩ = some (.slice A1 n1 c1) := KX2.out.cell 2
      have z_x2 := KX2.out.frozen 2
      have r_x3 : v2.cell? ⟨g, 3, none⟩ = some (.slice B1 m1 d1) := KX2.out.cell 3
      have z_x3 := KX2.out.frozen 3
      have r_x4 : v2.cell? ⟨g, 4, none⟩ = some (.int .i64 x0) := KX2.out.cell 4
      have z_x4 := KX2.out.frozen 4
      have r_x5 : v2.cell? ⟨g, 5, none⟩ = some (.int .i64 x1) := KX2.out.cell 5
      have z_x5 := KX2.out.frozen 5
      have r_x6 : v2.cell? ⟨g, 6, none⟩ = some (.int .i64 x2) := KX2.out.cell 6
      have z_x6 := KX2.out.frozen 6
      have lt_r := Kr2.out.lt
      have r_r0 : v2.cell? ⟨g2, 0, none⟩ = some (.int .i64 0) := Kr2.out.cell 0
      have z_r0 := Kr2.out.frozen 0
      have r_r1 : v2.cell? ⟨g2, 1, none⟩ = some (.int .i64 0) := Kr2.out.cell 1
      have z_r1 := Kr2.out.frozen 1
      have r_r2 : v2.cell? ⟨g2, 2, none⟩ = some (.slice none 0 0) := Kr2.out.cell 2
      have z_r2 := Kr2.out.frozen 2
      have r_r3 : v2.cell? ⟨g2, 3, none⟩ = some (.slice none 0 0) := Kr2.out.cell 3
      have z_r3 := Kr2.out.frozen 3
      have r_r4 : v2.cell? ⟨g2, 4, none⟩ = some (.int .i64 0) := Kr2.out.cell 4
      have z_r4 := Kr2.out.frozen 4
      have r_r5 : v2.cell? ⟨g2, 5, none⟩ = some (.int .i64 0) := Kr2.out.cell 5
      have z_r5 := Kr2.out.frozen 5
      have r_r6 : v2.cell? ⟨g2, 6, none⟩ = some (.int .i64 0) := Kr2.out.cell 6
      have z_r6 := Kr2.out.frozen 6
      have hS0 : ∀ b o, b < v2.heap.size → b ≠ g2 → v2.cell? ⟨b, o, none⟩ = v2.cell? ⟨b, o, none⟩ := fun b o hb hk => rfl
      go_region_held_law (fun w' => ∀ b o, b < v2.heap.size → b ≠ g2 → w'.cell? ⟨b, o, none⟩ = v2.cell? ⟨b, o, none⟩) (repeat' (first | with_reducible assumption | with_reducible exact hS0 | with_reducible refine hn_drew ?_ | with_reducible refine hn_set7 ?_ _ _ _ _ _ _ _)) (first | (go_at_call 42; refine (copyState_any A1 n1 c1 B1 m1 d1 ex et x0 x1 x2 p2 q2 _ (by first | with_reducible exact HP2.out | with_reducible exact Sl.drew HP2.out) (by first | with_reducible exact HQ2.out | with_reducible exact Sl.drew HQ2.out) HL1.out HR1.out (by have := HL1.out; omega) (by have := HR1.out; omega) HA1.out HB1.out).mono ?_; rintro e v3 ⟨A5, c5, B5, d5, rfl, R5, R6, hap, b3⟩; have E3 : Below v2.heap.size v2 v3 := (by first | with_reducible exact b3 | with_reducible exact tb_dr b3); have hS3 : ∀ b o, b < v2.heap.size → b ≠ g2 → v3.cell? ⟨b, o, none⟩ = v2.cell? ⟨b, o, none⟩ := fun b o hb hk => E3.cell (p := ⟨b, o, none⟩) hb; have Kr3 := Kr2.out.below E3; have yb0 := Kr3.cell 0; have yf0 := Kr3.frozen 0; have yb1 := Kr3.cell 1; have yf1 := Kr3.frozen 1; have yb2 := Kr3.cell 2; have yf2 := Kr3.frozen 2; have yb3 := Kr3.cell 3; have yf3 := Kr3.frozen 3; have yb4 := Kr3.cell 4; have yf4 := Kr3.frozen 4; have yb5 := Kr3.cell 5; have yf5 := Kr3.frozen 5; have yb6 := Kr3.cell 6; have yf6 := Kr3.frozen 6; have yl := Kr3.lt))
      all_goals
        go_wp21
        refine bodyPost_ret (v := .tuple #[.agg #[.int .i64 ex, .int .i64 et, .slice A5 n1 c5, .slice B5 m1 d5, .int .i64 x0, .int .i64 x1, .int .i64 x2], .int .i64 5]) (by simp [results, Tryz.results43, go_sem, *]) rfl ?_
        have h5 := R5.mono (show w.heap.size ≤ _ from F2.out.size)
        have h6 := R6.mono (show w.heap.size ≤ _ from F2.out.size)
        have n5 : ∀ a, A5 = some a → a.block ≠ g2 := fun a ha => by have := R5.ge a ha; (try simp at this); omega
        have n6 : ∀ a, B5 = some a → a.block ≠ g2 := fun a ha => by have := R6.ge a ha; (try simp at this); omega
        exact RetStateV.mk HL1.out HR1.out (row_far7 h5 n5 _ _ _ _ _ _ _) (row_far7 h6 n6 _ _ _ _ _ _ _) hap (below_far7 (bthen F2.out E3) (show w.heap.size ≤ g2 by omega) _ _ _ _ _ _ _)
end Go.Proofs.YtokklkmibjpjnaaGreat
