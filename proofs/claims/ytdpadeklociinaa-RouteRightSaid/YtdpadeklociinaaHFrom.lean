import Derived.Test.YtdpadeklociinaaHDefs
import Derived.Test.YtdpadeklociinaaPAx3
import Derived.RangeFuncNested
import Derived.RangeFuncBound
import Derived.RangeFuncCalls
import Derived.RangeFuncLeaves
import Derived.Shelf.Abstract
import Derived.Shelf.RegionOpen
import Derived.OwnWalkIn
import Derived.TacticsInMore
import Derived.LoopNIn
import Derived.LoopIn
set_option linter.unusedVariables false
namespace Go.Proofs.Ytdpadeklociinaa.PA
open Go.RowKit Go.Maps Go.Proofs.YtdpadeklociinaaW.PrintWords Go.Proofs.YtdpadeklociinaaW.PrintLast Go.Proofs.YtdpadeklociinaaW.PrintMore Go.Proofs.Ytdpadeklociinaa

/-! ### a departure on a day -/
theorem bit_and (v : Nat) (h : v < 256) : (Go.bits .and .u8 (v : Int) 1) = ((v % 2 : Nat) : Int) := by
  have : ∀ v : Fin 256, (Go.bits .and .u8 ((v.val : Nat) : Int) 1) = ((v.val % 2 : Nat) : Int) := by decide +kernel
  exact this ⟨v, h⟩

theorem onDay_of_f (a0 a1 a2 a3 a4 a5 a6 a7 day : Int) (h0 : 0 ≤ a7) (h1 : a7 ≤ 255) : network_On.f 1 a0 a1 a2 a3 a4 a5 a6 a7 day =
    some (match Net.onDay ⟨a0, a1, a2, a3, a4, a5, a6, a7⟩ day with | some d => (d, d + a4, true) | none => (0, 0, false)) := by
  unfold network_On.f network_Right.f
  rw [if_pos ⟨h0, h1⟩, Option.bind_some]
  have hnone : (Net.Leg.right ⟨a0, a1, a2, a3, a4, a5, a6, a7⟩ = false ∨ day < 0 ∨ 730484 < day ∨ Net.bitOf a7 day = false) → Net.onDay ⟨a0, a1, a2, a3, a4, a5, a6, a7⟩ day = none := by
    intro h
    cases ho : Net.onDay ⟨a0, a1, a2, a3, a4, a5, a6, a7⟩ day with
    | none => rfl
    | some d =>
      have := Net.onDay_some ho
      rcases h with h | h | h | h
      · rw [this.1] at h; cases h
      · omega
      · omega
      · rw [show (Net.Leg.days ⟨a0, a1, a2, a3, a4, a5, a6, a7⟩) = a7 from rfl] at this; rw [this.2.2.2.1] at h; cases h
  by_cases hr : Net.Leg.right ⟨a0, a1, a2, a3, a4, a5, a6, a7⟩ = true
  · rw [if_pos hr]
    have hR := (Net.Leg.right_iff _).1 hr
    dsimp only at hR
    by_cases hd : day < 0
    · rw [if_pos hd, hnone (.inr (.inl hd))]; simp [network_On.j0]
    rw [if_neg hd]
    by_cases hd2 : day > 730484
    · rw [if_pos hd2, hnone (.inr (.inr (.inl hd2)))]; simp [network_On.j0]
    rw [if_neg hd2]
    have et : Int.tmod day 7 = day % 7 := Int.tmod_eq_emod_of_nonneg (by omega)
    rw [et, if_pos (by omega)]
    have hm : (day % 7).toNat ≤ 6 := by omega
    have hs : shr .u8 a7 (day % 7) = a7 / 2 ^ (day % 7).toNat := by
      unfold shr
      rw [show min (day % 7).toNat (IntKind.bits .u8) = (day % 7).toNat from by show min (day % 7).toNat 8 = _; omega]
    obtain ⟨v, hv⟩ : ∃ v : Nat, a7 / 2 ^ (day % 7).toNat = (v : Int) := ⟨(a7 / 2 ^ (day % 7).toNat).toNat, by rw [Int.toNat_of_nonneg (Int.ediv_nonneg (by omega) (Int.pow_nonneg (by omega)))]⟩
    have hv2 : v < 256 := by
      have : a7 / 2 ^ (day % 7).toNat ≤ a7 := Int.ediv_le_self _ (by omega)
      omega
    rw [hs, hv, bit_and v hv2]
    have hb : Net.bitOf a7 day = decide (v % 2 = 1) := by
      unfold Net.bitOf
      rw [hv]
      congr 1
      rw [eq_iff_iff]; omega
    by_cases hbit : v % 2 = 1
    · rw [show (((v % 2 : Nat) : Int) == 0) = false from by rw [hbit]; rfl]
      have hbt : Net.bitOf a7 day = true := by rw [hb]; simp [hbit]
      have w1 : wrap64 (1440 * day) = 1440 * day := by unfold wrap64; omega
      have w2 : wrap64 (1440 * day + a3) = 1440 * day + a3 := by unfold wrap64; omega
      have w3 : wrap64 (1440 * day + a3 + a4) = 1440 * day + a3 + a4 := by unfold wrap64; omega
      simp only [network_On.j0, w1, w2, w3]
      rw [if_neg (by simp)]
      by_cases hc : 1440 * day + a3 < a5
      · rw [if_pos hc]
        have : Net.onDay ⟨a0, a1, a2, a3, a4, a5, a6, a7⟩ day = none := by
          cases ho : Net.onDay ⟨a0, a1, a2, a3, a4, a5, a6, a7⟩ day with
          | none => rfl
          | some d => have := Net.onDay_some ho; dsimp only at this; omega
        rw [this]
      · rw [if_neg hc]
        by_cases hm2 : 1440 * day + a3 + a4 > 1051898399
        · rw [if_pos hm2]
          have : Net.onDay ⟨a0, a1, a2, a3, a4, a5, a6, a7⟩ day = none := by
            cases ho : Net.onDay ⟨a0, a1, a2, a3, a4, a5, a6, a7⟩ day with
            | none => rfl
            | some d => have := Net.onDay_some ho; dsimp only at this; omega
          rw [this]
        · rw [if_neg hm2]
          have : Net.onDay ⟨a0, a1, a2, a3, a4, a5, a6, a7⟩ day = some (1440 * day + a3) := Net.onDay_mk hr (by omega) (by omega) hbt (by dsimp only; omega) (by dsimp only; omega)
          rw [this]
    · rw [show (((v % 2 : Nat) : Int) == 0) = true from by rw [show v % 2 = 0 by omega]; rfl]
      rw [hnone (.inr (.inr (.inr (by rw [hb]; simp [hbit]))))]
      simp [network_On.j0]
  · have hr : Net.Leg.right ⟨a0, a1, a2, a3, a4, a5, a6, a7⟩ = false := by simpa using hr
    rw [hr, if_neg (by simp), hnone (.inl hr)]
    simp [network_On.j0]

theorem ret_i64 {a b : Int} (h : a = b) : Ending.returned (.int .i64 a) = .returned (.int .i64 b) := by rw [h]
set_option maxHeartbeats 1000000 in
theorem near_same (a0 : Int) (w : World) : Calls Try.prog 111 #[.int .i64 a0] w fun e w' => e = .returned (.int .i64 (Net.near a0)) ∧ w = w' := by
  rcases (by omega : a0 < -1440 ∨ (-1440 ≤ a0 ∧ a0 ≤ 1051899839) ∨ 1051899839 < a0) with h | ⟨h, h'⟩ | h
  · have e : Net.near a0 = -1440 := by unfold Net.near; omega
    have E := Aside0.mk e
    clear e
    go_enter Try.func111, Try.ntmps111
    go_wp2
    go_ret
    exact ⟨ret_i64 E.out.symm, rfl⟩
  · have e : Net.near a0 = a0 := by unfold Net.near; omega
    have E := Aside0.mk e
    clear e
    have hn : ¬ a0 < -1440 := by omega
    have hn2 : ¬ 1051899839 < a0 := by omega
    go_enter Try.func111, Try.ntmps111
    go_wp2
    go_ret
    exact ⟨ret_i64 E.out.symm, rfl⟩
  · have e : Net.near a0 = 1051899839 := by unfold Net.near; omega
    have E := Aside0.mk e
    clear e
    have hn : ¬ a0 < -1440 := by omega
    go_enter Try.func111, Try.ntmps111
    go_wp2
    go_ret
    exact ⟨ret_i64 E.out.symm, rfl⟩

/-! ### from, and what it hands back -/
def deps (l : Net.Leg) : Nat → Int → List Int
  | 0, _ => []
  | k + 1, day => match Net.onDay l day with
    | some d => d :: deps l k (day + 1)
    | none => deps l k (day + 1)

theorem deps_find (l : Net.Leg) (want : Int) : ∀ (k : Nat) (day : Int), Net.nextFrom l want k day = (deps l k day).find? (fun d => decide (want ≤ d))
  | 0, _ => rfl
  | k + 1, day => by
    rw [Net.nextFrom, deps]
    cases Net.onDay l day with
    | none => exact deps_find l want k _
    | some d =>
      dsimp only
      rw [List.find?_cons]
      by_cases h : want ≤ d
      · rw [if_pos h, decide_eq_true h]
      · rw [if_neg h, decide_eq_false h]; exact deps_find l want k _

abbrev legV (e : S23) : Array Value := #[.int .i64 e.f0, .int .i64 e.f1, .int .i64 e.f2, .int .i64 e.f3, .int .i64 e.f4, .int .i64 e.f5, .int .i64 e.f6, .int .u8 e.f7]

theorem from_calls (e : S23) (day : Int) (w : World) : Calls Try.prog 112 #[.agg (legV e), .int .i64 day] w fun en w' => en = .returned (.func (.func 126) #[] #[.pointer (some ⟨w.heap.size + 1, 0, none⟩), .pointer (some ⟨w.heap.size, 0, none⟩)]) ∧ w' = (w.alloc (.cells (legV e) 23)).alloc (.cells #[.int .i64 day] 3) := by
  have hmf : ∀ (fn : Fn) (first cap : Array Value) (w : World), (Instr.makeFunc fn first cap).run Try.prog w = .ok (.func fn first cap) w := fun _ _ _ _ => rfl
  go_enter Try.func112, Try.ntmps112
  go_wp2
  go_ret
  exact ⟨rfl, rfl⟩

attribute [local go_sem] Oper.semAt_some

theorem deps_none (l : Net.Leg) : ∀ (k : Nat) (day : Int), 730484 < day → deps l k day = []
  | 0, _, _ => rfl
  | k + 1, day, h => by
    rw [deps]
    cases ho : Net.onDay l day with
    | none => exact deps_none l k _ (by omega)
    | some d => have := Net.onDay_some ho; omega

set_option maxRecDepth 100000 in
set_option maxHeartbeats 4000000 in
/-- The departures from a day on, one behind the other, while a round goes on. -/
theorem from1_in (n : Nat) (hn : 1 ≤ n) (l Bd Bl n₀ : Nat) (e : S23) (s : Int) (he0 : 0 ≤ e.f7) (he1 : e.f7 ≤ 255) (hs0 : 0 ≤ s) (hs1 : s ≤ 1000000) (J Jx : List Int → World → Prop)
    (hY : ∀ pre x W, J pre W → pre.length < 1000000 → YieldAt Fence.wide (n - 1) Try.prog l #[.agg #[.int .i64 x, .int .i64 (x + e.f4)]] W fun en W' =>
      (en = .returned (.bool true) ∧ J (pre ++ [x]) W' ∧ Below n₀ W W') ∨ (en = .returned (.bool false) ∧ Jx (pre ++ [x]) W'))
    (W : World) (hBd : Bd < n₀) (hBl : Bl < n₀) (hn₀ : n₀ ≤ W.heap.size) (hcd : W.heap[Bd]? = some (.cells #[.int .i64 s] 3 (0, 0))) (hcl : W.heap[Bl]? = some (.cells (legV e) 23 (0, 0))) (hJ : AbidesFrom W.heap.size J) (h0 : J [] W) :
    CallsIn Fence.wide n Try.prog 126 #[.func (.yield l) #[] #[], .pointer (some ⟨Bd, 0, none⟩), .pointer (some ⟨Bl, 0, none⟩)] W fun en W' => (∃ v, en = .returned v) ∧
      ((∃ ys, ys = deps (toLeg e) (730485 - s).toNat s ∧ J ys W') ∨ (∃ pre, pre <+: deps (toLeg e) (730485 - s).toNat s ∧ Jx pre W')) := by
  have HCD := Aside0.mk hcd
  have HCL := Aside0.mk hcl
  have HJ := Aside0.mk hJ
  have HJ0 := Aside0.mk h0
  have HY := Aside0.mk hY
  have hz := (blk_cell hcd 0).trans rfl
  clear hcd hcl hJ h0 hY
  have hnot : ∀ (x : Bool) (w : World), (Op.unary .not (.bool x)).run Try.prog w = .ok (.bool (!x)) w := fun _ _ => rfl
  refine callsIn_of_wp Try.func126 rfl trivial ?_ rfl
  simp only [Try.ntmps126, List.size_toArray, List.length_cons, List.length_nil, Nat.reduceAdd, Nat.reduceSub, Array.replicate_succ, Array.replicate_zero, List.push_toArray, List.append_toArray, List.nil_append, List.cons_append]
  gi_wp2
  gi_loopw [4] (fun p wr => ∃ (pre : List Int) (x : Int), p = .int .i64 x ∧ Aside0 (0 ≤ x ∧ x ≤ 1000000 ∧ (x ≤ 730485 ∨ x = s)) ∧ Aside0 (pre ++ deps (toLeg e) (730485 - x).toNat x = deps (toLeg e) (730485 - s).toNat s) ∧ Aside0 (pre.length ≤ x) ∧
      Aside0 (wr.heap[Bl]? = some (.cells (legV e) 23 (0, 0))) ∧ Aside0 (J pre wr) ∧ Aside0 (Below n₀ W wr)) (fun p _ => 1000001 - (intOf p).toNat)
  case atStart =>
    exact ⟨[], s, rfl, ⟨by omega⟩, ⟨rfl⟩, ⟨by simpa using hs0⟩, HCL, HJ0, ⟨Below.refl _ _⟩⟩
  case round =>
    obtain ⟨pre, x, rfl, HX, HD, HL, HBl, HJp, HB⟩ := hrel
    have hx0 : 0 ≤ x := HX.out.1
    by_cases hx : x ≤ 730484
    · have ek : (730485 - x).toNat = (730485 - (x + 1)).toNat + 1 := by omega
      have HE := Aside0.mk (show deps (toLeg e) (730485 - x).toNat x = match Net.onDay (toLeg e) x with | some d => d :: deps (toLeg e) (730485 - (x + 1)).toNat (x + 1) | none => deps (toLeg e) (730485 - (x + 1)).toNat (x + 1) from by rw [ek, deps])
      clear ek
      have HON := Aside0.mk (onDay_of_f e.f0 e.f1 e.f2 e.f3 e.f4 e.f5 e.f6 e.f7 x he0 he1)
      have hy0 := (blk_cell HBl.out 0).trans rfl
      have hy1 := (blk_cell HBl.out 1).trans rfl
      have hy2 := (blk_cell HBl.out 2).trans rfl
      have hy3 := (blk_cell HBl.out 3).trans rfl
      have hy4 := (blk_cell HBl.out 4).trans rfl
      have hy5 := (blk_cell HBl.out 5).trans rfl
      have hy6 := (blk_cell HBl.out 6).trans rfl
      have hy7 := (blk_cell HBl.out 7).trans rfl
      cases ho : Net.onDay (toLeg e) x with
      | none =>
        rw [show (⟨e.f0, e.f1, e.f2, e.f3, e.f4, e.f5, e.f6, e.f7⟩ : Net.Leg) = toLeg e from rfl, ho] at HON
        rw [ho] at HE
        clear ho
        gi_wp2_with (refine ⟨trivial, ?_⟩; gi_at_call 66; refine (callsIn_wide.2 (network_On.calls 1 _ _ _ _ _ _ _ _ _ _ _ _ _ HON.out)).mono ?_; rintro en w2 ⟨rfl, hb2⟩; have HB2 := Aside0.mk hb2; clear hb2)
        have HJ2 : J pre w2 := HJ.out pre wr w2 none HJp.out (grown_of_below HB2.out none) (fun r h => by cases h)
        have hnw : n₀ ≤ wr.heap.size := Nat.le_trans hn₀ HB.out.size
        refine ⟨fun _ h => (by cases h), ?_⟩
        gi_wp2
        go_roundw
        case rel =>
          exact ⟨pre, x + 1, by go_num, ⟨by omega⟩, ⟨by rw [← HD.out, HE.out]⟩, ⟨by have := HL.out; omega⟩, ⟨blk_alloc (blk_below HBl.out HB2.out) _⟩, ⟨HJ.out pre w2 _ none HJ2 (World.grownBy_alloc w2 _ none) (fun r h => by cases h)⟩, ⟨(HB.out.trans (HB2.out.mono hnw)).alloc (Nat.le_trans hnw HB2.out.size) _⟩⟩
        case measure => simp [intOf]; omega
      | some d =>
        rw [show (⟨e.f0, e.f1, e.f2, e.f3, e.f4, e.f5, e.f6, e.f7⟩ : Net.Leg) = toLeg e from rfl, ho] at HON
        rw [ho] at HE
        clear ho
        have hnw : n₀ ≤ wr.heap.size := Nat.le_trans hn₀ HB.out.size
        gi_wp2_with (refine ⟨trivial, ?_⟩; gi_at_call 66; refine (callsIn_wide.2 (network_On.calls 1 _ _ _ _ _ _ _ _ _ _ _ _ _ HON.out)).mono ?_; rintro en w2 ⟨rfl, hb2⟩; have HB2 := Aside0.mk hb2; clear hb2; have HJ2 : Aside0 (J pre (w2.alloc (.cells #[.int .i64 d, .int .i64 (d + e.f4)] 114))) := ⟨HJ.out pre w2 _ none (HJ.out pre wr w2 none HJp.out (grown_of_below HB2.out none) (fun r h => by cases h)) (World.grownBy_alloc w2 _ none) (fun r h => by cases h)⟩; obtain ⟨fn, tmps, assign, body, hy, hR⟩ := HY.out pre d _ HJ2.out (by have := HL.out; omega); have HR := Aside0.mk hR; clear hR)
        refine HR.out.mono ?_
        rintro en W3 (⟨rfl, hJ3, hk3⟩ | ⟨rfl, hJx3⟩)
        · have HJ3 := Aside0.mk hJ3
          have HK3 := Aside0.mk hk3
          clear hJ3 hk3
          gi_wp2
          go_roundw
          case rel =>
            have hb3 : Below n₀ wr W3 := ((HB2.out.mono hnw).alloc (Nat.le_trans hnw HB2.out.size) _).trans HK3.out
            exact ⟨pre ++ [d], x + 1, by go_num, ⟨by omega⟩, ⟨by rw [← HD.out, HE.out]; simp⟩, ⟨by have := HL.out; simp; omega⟩, ⟨(hb3.block Bl hBl).trans HBl.out⟩, HJ3, ⟨HB.out.trans hb3⟩⟩
          case measure => simp [intOf]; omega
        · have HJ3 := Aside0.mk hJx3
          clear hJx3
          gi_wp2
          refine bodyPost_ret (results_none rfl _ _ _) rfl ?_
          exact ⟨⟨_, rfl⟩, .inr ⟨pre ++ [d], ⟨deps (toLeg e) (730485 - (x + 1)).toNat (x + 1), by rw [← HD.out, HE.out]; simp⟩, HJ3.out⟩⟩
    · have HE := Aside0.mk (show deps (toLeg e) (730485 - x).toNat x = [] from deps_none _ _ _ (by omega))
      gi_wp2
      go_end0
      exact ⟨⟨_, rfl⟩, .inl (by rw [← HD.out, HE.out, List.append_nil]; exact HJp.out)⟩

theorem from1_stops (n : Nat) (hn : 1 ≤ n) (Bd Bl n₀ : Nat) (e : S23) (s : Int) (he0 : 0 ≤ e.f7) (he1 : e.f7 ≤ 255) (hs0 : 0 ≤ s) (hs1 : s ≤ 1000000) (w : World) (hBd : Bd < n₀) (hBl : Bl < n₀) (hn₀ : n₀ ≤ w.heap.size)
    (hcd : w.heap[Bd]? = some (.cells #[.int .i64 s] 3 (0, 0))) (hcl : w.heap[Bl]? = some (.cells (legV e) 23 (0, 0))) :
    SeqStopsK Fence.wide n Try.prog 126 #[.pointer (some ⟨Bd, 0, none⟩), .pointer (some ⟨Bl, 0, none⟩)] (fun x : Int => #[Value.agg #[.int .i64 x, .int .i64 (x + e.f4)]]) (Below n₀)
      (fun ys => ys = deps (toLeg e) (730485 - s).toNat s) (fun pre => pre <+: deps (toLeg e) (730485 - s).toNat s) 1000000 w := fun l J Jx W hW hJ _ hY h0 =>
  from1_in n hn l Bd Bl n₀ e s he0 he1 hs0 hs1 J Jx hY W hBd hBl (Nat.le_trans hn₀ hW.size) (blk_below hcd hW) (blk_below hcl hW) hJ h0

end Go.Proofs.Ytdpadeklociinaa.PA
