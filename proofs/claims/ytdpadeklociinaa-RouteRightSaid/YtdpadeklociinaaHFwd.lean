import Derived.Test.YtdpadeklociinaaHRowAll
import Derived.Test.YtdpadeklociinaaHNext
import Derived.Deep.QuietTactic
import Derived.BigQuiet
import Derived.BigRegion
import Derived.Shelf.RegionOpen
set_option linter.unusedVariables false
namespace Go.Proofs.Ytdpadeklociinaa.PA
open Go.RowKit Go.Maps Go.Proofs.YtdpadeklociinaaW.PrintWords Go.Proofs.YtdpadeklociinaaW.PrintLast Go.Proofs.YtdpadeklociinaaW.PrintMore Go.Proofs.Ytdpadeklociinaa

def fwdRow (x : S23) (t : Int) (p q : Nat) (RL RN : List Int) : List Int :=
  if RL.getD p 0 < 0 then RN else match Net.next (toLeg x) (RL.getD p 0) with
    | none => RN
    | some d => if d + x.f4 - t ≤ 86400 ∧ (RN.getD q 0 < 0 ∨ d + x.f4 < RN.getD q 0) then RN.set q (d + x.f4) else RN

theorem grown_setCell1 (w : World) (g i : Nat) (v : Value) : w.grownBy (w.setCell ⟨g, i, none⟩ v) (some g) := by
  obtain ⟨s1, s2, s3, s4⟩ := setCells_same g [v] i w
  exact ⟨s1, s2, s3, Nat.le_of_eq s4.symm, fun k _ hk => setCells_far [v] i k (fun e => hk (by rw [e]))⟩
set_option maxRecDepth 100000 in
theorem MapIs.run {w : World} {b n : Nat} {m : Int → Int} (h : MapIs w b n m) {p : Int} (hp : I64 p) : (Instr.lookup 53 (.map (some b)) (.int .i64 p) false).run Try.prog w = .ok (.int .i64 (m p)) w := by
  obtain ⟨D, h1, h2, h3⟩ := h
  obtain ⟨c, hrun, hat, hwc⟩ := h1.lookup_int law3 Try.underlying53 Try.underlying3 (zero3 _) (keyOf_int_mk Try.underlying3 hp.wf)
  rw [h3] at hat
  injection hat with hat
  injection hat with _ hat
  subst hat
  exact hrun

set_option maxRecDepth 100000 in
set_option maxHeartbeats 4000000 in
theorem forward1.calls (pos : Int → Int) (bm n Bw Br g : Nat) (many : Int) (vl : Value) (t : Int) (x : S23) (RL RN : List Int) (W : World) (hL : RL.length = 50) (hN : RN.length = 50)
    (h70 : 0 ≤ x.f7) (h71 : x.f7 ≤ 255) (h1 : I64 x.f1) (h2 : I64 x.f2) (p q : Nat) (hp : p < 50) (hq : q < 50) (hpp : pos x.f1 = p) (hqq : pos x.f2 = q)
    (ht0 : 0 ≤ t) (ht1 : t ≤ 1051898399) (hN0 : ∀ d, Net.next (toLeg x) (RL.getD p 0) = some d → 0 ≤ d + x.f4 ∧ d + x.f4 ≤ 1051898399)
    (hw : W.heap[Bw]? = some (.cells #[.map (some bm), .int .i64 many, vl] 106 (0, 0))) (hr : W.heap[Br]? = some (.cells #[.int .i64 t] 3 (0, 0))) (hm : MapIs W bm n pos) (hg : W.heap[g]? = some (.cells (rowC RN) 112 (0, 0))) :
    Calls Try.prog 95 #[.agg (legV x), rowV RL, .pointer (some ⟨g, 0, none⟩), .pointer (some ⟨Bw, 0, none⟩), .pointer (some ⟨Br, 0, none⟩)] W fun e w' =>
      e = .returned (.tuple #[]) ∧ w'.heap[g]? = some (.cells (rowC (fwdRow x t p q RL RN)) 112 (0, 0)) ∧ W.grownBy w' (some g) := by
  obtain ⟨a0, a1, a2, a3, a4, a5, a6, a7⟩ := x
  dsimp only at h70 h71 h1 h2 hpp hqq hN0
  have HW := Aside0.mk hw
  have HR := Aside0.mk hr
  have HM := Aside0.mk hm
  have HG := Aside0.mk hg
  have HN0 := Aside0.mk hN0
  have yw := (blk_cell hw 0).trans rfl
  clear hw hr hm hg hN0
  have HI1 := Aside0.mk h1
  have HI2 := Aside0.mk h2
  have HP := Aside0.mk hpp
  have HQ := Aside0.mk hqq
  clear h1 h2 hpp hqq
  have W0 : ∃ w1, w1 = (W.alloc (.cells (legV ⟨a0, a1, a2, a3, a4, a5, a6, a7⟩) 23)).alloc (.cells (rowC RL) 112) := ⟨_, rfl⟩
  obtain ⟨w1, hw1⟩ := W0
  have B1 : Aside0 (w1.heap[W.heap.size]? = some (.cells (legV ⟨a0, a1, a2, a3, a4, a5, a6, a7⟩) 23 (0, 0))) := ⟨by rw [hw1]; exact blk_alloc (blk_new W _) _⟩
  have B2 : Aside0 (w1.heap[W.heap.size + 1]? = some (.cells (rowC RL) 112 (0, 0))) := ⟨by rw [hw1]; have := blk_new (W.alloc (.cells (legV ⟨a0, a1, a2, a3, a4, a5, a6, a7⟩) 23)) (.cells (rowC RL) 112); simpa using this⟩
  have B3 : Aside0 (w1.heap[Bw]? = some (.cells #[.map (some bm), .int .i64 many, vl] 106 (0, 0))) := ⟨by rw [hw1]; exact blk_alloc (blk_alloc HW.out _) _⟩
  have B4 : Aside0 (w1.heap[Br]? = some (.cells #[.int .i64 t] 3 (0, 0))) := ⟨by rw [hw1]; exact blk_alloc (blk_alloc HR.out _) _⟩
  have B5 : Aside0 (w1.heap[g]? = some (.cells (rowC RN) 112 (0, 0))) := ⟨by rw [hw1]; exact blk_alloc (blk_alloc HG.out _) _⟩
  have B6 : Aside0 (MapIs w1 bm n pos) := ⟨by rw [hw1]; exact (HM.out.alloc _).alloc _⟩
  have B7 : Aside0 (W.grownBy w1 (some g)) := ⟨by rw [hw1]; exact (World.grownBy_alloc W _ _).trans (World.grownBy_alloc _ _ _)⟩
  have B8 : Aside0 (W.heap.size + 1 < w1.heap.size) := ⟨by rw [hw1]; simp⟩
  clear HW HR HM HG yw
  have HF := Aside0.mk (show fwdRow ⟨a0, a1, a2, a3, a4, a5, a6, a7⟩ t p q RL RN = if RL.getD p 0 < 0 then RN else match Net.next ⟨a0, a1, a2, a3, a4, a5, a6, a7⟩ (RL.getD p 0) with
    | none => RN
    | some d => if d + a4 - t ≤ 86400 ∧ (RN.getD q 0 < 0 ∨ d + a4 < RN.getD q 0) then RN.set q (d + a4) else RN from rfl)
  have HN0' := Aside0.mk (show ∀ d : Int, Net.next ⟨a0, a1, a2, a3, a4, a5, a6, a7⟩ (RL.getD p 0) = some d → 0 ≤ d + a4 ∧ d + a4 ≤ 1051898399 from HN0.out)
  clear HN0
  generalize fwdRow ⟨a0, a1, a2, a3, a4, a5, a6, a7⟩ t p q RL RN = R' at HF ⊢
  have CL : Aside0 ((rowC RL)[p]? = some (.int .i64 (RL.getD p 0))) := ⟨rowC_get _ _ (by omega)⟩
  generalize RL.getD p 0 = lp at CL HF HN0'
  go_enter Try.func95, Try.ntmps95
  go_wp2_with (first | ((with_reducible refine gate_dst (N := 6) rfl ?_); refine row_box rfl (.tmp 1) rfl RL rfl ?_))
  simp only [World.size_alloc]
  rw [← hw1]
  clear hw1
  have c0 : w1.cell? ⟨Bw, 0, none⟩ = some (.map (some bm)) := (blk_cell B3.out 0).trans rfl
  have c1 : w1.cell? ⟨W.heap.size, 1, none⟩ = some (.int .i64 a1) := (blk_cell B1.out 1).trans rfl
  have c2 : w1.cell? ⟨W.heap.size, 2, none⟩ = some (.int .i64 a2) := (blk_cell B1.out 2).trans rfl
  have l1 := fun k => MapIs.run (B6.out.drewN k) HI1.out
  have l2 := fun k => MapIs.run (B6.out.drewN k) HI2.out
  rw [HP.out] at l1
  rw [HQ.out] at l2
  go_quiet (fail)
  clear l1 l2 c0 c1 c2
  obtain ⟨w2, hw2⟩ : ∃ w2, w2 = w1.drewN nq := ⟨_, rfl⟩
  have D1 : Aside0 (w2.heap[W.heap.size]? = some (.cells (legV ⟨a0, a1, a2, a3, a4, a5, a6, a7⟩) 23 (0, 0))) := ⟨by rw [hw2]; exact B1.out⟩
  have D2 : Aside0 (w2.heap[W.heap.size + 1]? = some (.cells (rowC RL) 112 (0, 0))) := ⟨by rw [hw2]; exact B2.out⟩
  have D4 : Aside0 (w2.heap[Br]? = some (.cells #[.int .i64 t] 3 (0, 0))) := ⟨by rw [hw2]; exact B4.out⟩
  have D5 : Aside0 (w2.heap[g]? = some (.cells (rowC RN) 112 (0, 0))) := ⟨by rw [hw2]; exact B5.out⟩
  have D7 : Aside0 (W.grownBy w2 (some g)) := ⟨by rw [hw2]; exact B7.out.trans (grown_of_below (pw_below_drewN (Below.refl _ _) nq) _)⟩
  rw [← hw2]
  clear hw2 B1 B2 B3 B4 B5 B6 B7 B8
  have cL : w2.cell? ⟨W.heap.size + 1, p, none⟩ = some (.int .i64 lp) := (blk_cell D2.out p).trans CL.out
  simp only [Exit.then]
  by_cases hlp : lp < 0
  · rw [if_pos hlp] at HF
    obtain rfl : R' = RN := HF.out
    go_wp2
    refine bodyPost_ret (results_none rfl _ _ _) rfl ?_
    exact ⟨rfl, D5.out, D7.out⟩
  · rw [if_neg hlp] at HF
    go_wp2
    have y0 : w2.cell? ⟨W.heap.size, 0, none⟩ = some (.int .i64 a0) := (blk_cell D1.out 0).trans rfl
    have y1 : w2.cell? ⟨W.heap.size, 1, none⟩ = some (.int .i64 a1) := (blk_cell D1.out 1).trans rfl
    have y2 : w2.cell? ⟨W.heap.size, 2, none⟩ = some (.int .i64 a2) := (blk_cell D1.out 2).trans rfl
    have y3 : w2.cell? ⟨W.heap.size, 3, none⟩ = some (.int .i64 a3) := (blk_cell D1.out 3).trans rfl
    have y4 : w2.cell? ⟨W.heap.size, 4, none⟩ = some (.int .i64 a4) := (blk_cell D1.out 4).trans rfl
    have y5 : w2.cell? ⟨W.heap.size, 5, none⟩ = some (.int .i64 a5) := (blk_cell D1.out 5).trans rfl
    have y6 : w2.cell? ⟨W.heap.size, 6, none⟩ = some (.int .i64 a6) := (blk_cell D1.out 6).trans rfl
    have y7 : w2.cell? ⟨W.heap.size, 7, none⟩ = some (.int .u8 a7) := (blk_cell D1.out 7).trans rfl
    have z0 : W.heap.size < w2.heap.size := blk_lt D1.out
    have z1 : W.heap.size + 1 < w2.heap.size := blk_lt D2.out
    have HX : ∃ r1 r2 r3, network_Next.f a0 a1 a2 a3 a4 a5 a6 a7 lp = some (r1, r2, r3) ∧ (match Net.next ⟨a0, a1, a2, a3, a4, a5, a6, a7⟩ lp with | some d => (d, d + a4, true) | none => (0, 0, false)) = (r1, r2, r3) := by
      unfold network_Next.f
      rw [if_pos ⟨h70, h71⟩]
      exact ⟨_, _, _, rfl, rfl⟩
    obtain ⟨r1, r2, r3, hx, hx2⟩ := HX
    have HXX := Aside0.mk hx
    have HX2 := Aside0.mk hx2
    clear hx hx2
    refine Code.wp_mono (Q := Exit.then (fun a' w' => (∃ gd, w'.heap[gd]? = some (.cells #[.int .i64 r1, .int .i64 r2] 114 (0, 0)) ∧ (∃ u12 u13 u14 u15 u16 u17 u18 u19 u20 u21 u22 u23 u24 u25 u26 u27 u28 u29 u30 u31 u32 u33 u34 u35 u36 u37 u38 u39 u40 u41 u42 u43 u44 u45 u46 u47 u48 u49 u50 u51 u52 u53 u54 u55 u56 u57 u58 u59 u60 u61 u62 u63 u64 u65 : Value, a' = { tmps := #[.agg (legV ⟨a0, a1, a2, a3, a4, a5, a6, a7⟩), rowV RL, .pointer (some ⟨g, 0, none⟩), .pointer (some ⟨Bw, 0, none⟩), .pointer (some ⟨Br, 0, none⟩), .pointer (some ⟨W.heap.size, 0, none⟩), .pointer (some ⟨W.heap.size + 1, 0, none⟩), undef, .int .i64 p, .int .i64 q, .pointer (some ⟨gd, 0, none⟩), .bool r3, u12, u13, u14, u15, u16, u17, u18, u19, u20, u21, u22, u23, u24, u25, u26, u27, u28, u29, u30, u31, u32, u33, u34, u35, u36, u37, u38, u39, u40, u41, u42, u43, u44, u45, u46, u47, u48, u49, u50, u51, u52, u53, u54, u55, u56, u57, u58, u59, u60, u61, u62, u63, u64, u65], defers := [] })) ∧ Below w2.heap.size w2 w') (fun _ _ _ => False)) ?_ ?_
    rotate_left
    · go_region_with (go_at_call 96; refine (network_Next.calls _ _ _ _ _ _ _ _ _ _ _ _ _ HXX.out).mono ?_; rintro en w' ⟨rfl, hb⟩; first | (have hb' : Below (w2.alloc (.cells #[.int .i64 0, .int .i64 0] 114)).drew.heap.size (w2.alloc (.cells #[.int .i64 0, .int .i64 0] 114)).drew w' := hb; have n0 := Aside0.mk (blk_below (w := (w2.alloc (.cells #[.int .i64 0, .int .i64 0] 114)).drew) (blk_new w2 (.cells #[.int .i64 0, .int .i64 0] 114)) hb'); have n4 := Aside0.mk (below_then (((Below.refl w2.heap.size w2).alloc (Nat.le_refl _) (.cells #[.int .i64 0, .int .i64 0] 114)).drew) (by simp) hb'); have n1 : w'.cell? ⟨w2.heap.size, 0, none⟩ = some (.int .i64 0) := (blk_cell n0.out 0).trans rfl; have n2 : w'.cell? ⟨w2.heap.size, 1, none⟩ = some (.int .i64 0) := (blk_cell n0.out 1).trans rfl; have n3 := blk_frozen n0.out; clear hb hb') | (have hb' : Below w2.drew.heap.size w2.drew w' := hb; have n4 := Aside0.mk (below_then ((Below.refl w2.heap.size w2).drew) (Nat.le_refl _) hb'); clear hb hb'))
      all_goals (first | exact ⟨⟨_, blk_new w' _, _, _, _, _, _, _, _, _, _, _, _, _, _, _, _, _, _, _, _, _, _, _, _, _, _, _, _, _, _, _, _, _, _, _, _, _, _, _, _, _, _, _, _, _, _, _, _, _, _, _, _, _, _, _, rfl⟩, n4.out.alloc n4.out.size _⟩ | exact ⟨⟨w2.heap.size, blk_put (cs' := #[.int .i64 r1, .int .i64 r2]) (blk_put (cs' := #[.int .i64 r1, .int .i64 0]) n0.out 0 _ rfl) 1 _ rfl, _, _, _, _, _, _, _, _, _, _, _, _, _, _, _, _, _, _, _, _, _, _, _, _, _, _, _, _, _, _, _, _, _, _, _, _, _, _, _, _, _, _, _, _, _, _, _, _, _, _, _, _, _, _, rfl⟩, (n4.out.setCell (Nat.le_refl _) _).setCell (Nat.le_refl _) _⟩)
    · rintro en a' w3 hq3
      cases en with
      | normal =>
        obtain ⟨⟨gd, hgd, u12, u13, u14, u15, u16, u17, u18, u19, u20, u21, u22, u23, u24, u25, u26, u27, u28, u29, u30, u31, u32, u33, u34, u35, u36, u37, u38, u39, u40, u41, u42, u43, u44, u45, u46, u47, u48, u49, u50, u51, u52, u53, u54, u55, u56, u57, u58, u59, u60, u61, u62, u63, u64, u65, rfl⟩, hb3⟩ := hq3
        have E0 := Aside0.mk hgd
        have E4 := Aside0.mk (blk_below D4.out hb3)
        have E5 := Aside0.mk (blk_below D5.out hb3)
        have E7 := Aside0.mk (D7.out.trans (grown_of_below hb3 (some g)))
        have et : w3.cell? ⟨Br, 0, none⟩ = some (.int .i64 t) := (blk_cell E4.out 0).trans rfl
        have eq : w3.cell? ⟨g, q, none⟩ = some (.int .i64 (RN.getD q 0)) := (blk_cell E5.out q).trans (rowC_get _ _ (by omega))
        have e1 : w3.cell? ⟨gd, 1, none⟩ = some (.int .i64 r2) := (blk_cell E0.out 1).trans rfl
        have fq := blk_frozen E5.out q
        clear D1 D2 D4 D5 D7 cL y0 y1 y2 y3 y4 y5 y6 y7 z0 z1 hgd hb3
        simp only [Exit.then]
        cases hnx : Net.next ⟨a0, a1, a2, a3, a4, a5, a6, a7⟩ lp with
        | none =>
          rw [hnx] at HX2 HF
          obtain ⟨rfl, rfl, rfl⟩ : r1 = 0 ∧ r2 = 0 ∧ r3 = false := by have := HX2.out; simp only [Prod.mk.injEq] at this; exact ⟨this.1.symm, this.2.1.symm, this.2.2.symm⟩
          obtain rfl : R' = RN := HF.out
          go_wp2_with fail
          go_quiet (fail)
          go_wp2
          go_end0
          exact ⟨rfl, E5.out, E7.out.trans (grown_of_below (pw_below_drewN (Below.refl _ _) _) _)⟩
        | some d =>
          have hb := HN0'.out d hnx
          rw [hnx] at HX2 HF
          dsimp only at HX2 HF
          generalize d + a4 = v at HX2 HF hb
          obtain ⟨rfl, rfl, rfl⟩ : r1 = d ∧ r2 = v ∧ r3 = true := by have := HX2.out; simp only [Prod.mk.injEq] at this; exact ⟨this.1.symm, this.2.1.symm, this.2.2.symm⟩
          obtain ⟨hb0, hb1⟩ := hb
          generalize RN.getD q 0 = nq at eq HF
          have hwr : IntKind.i64.wrap (r2 - t) = r2 - t := by rw [IntKind.wrap_i64]; omega
          by_cases hA : r2 - t ≤ 86400
          · by_cases hB : nq < 0
            · rw [if_pos ⟨hA, .inl hB⟩] at HF
              go_wp2_with fail
              go_quiet (fail)
              go_wp2_with fail
              go_region
              go_end0
              obtain rfl : R' = RN.set q r2 := HF.out
              exact ⟨rfl, blk_put (w := w3.drewN _) E5.out q _ (rowC_set _ _ _), (E7.out.trans (grown_of_below (pw_below_drewN (Below.refl _ _) _) _)).trans (grown_setCell1 _ _ _ _)⟩
            · by_cases hC : r2 < nq
              · rw [if_pos ⟨hA, .inr hC⟩] at HF
                have hB' := decide_eq_false hB
                go_wp2_with fail
                go_quiet (fail)
                go_wp2_with fail
                go_region
                go_end0
                obtain rfl : R' = RN.set q r2 := HF.out
                exact ⟨rfl, blk_put (w := w3.drewN _) E5.out q _ (rowC_set _ _ _), (E7.out.trans (grown_of_below (pw_below_drewN (Below.refl _ _) _) _)).trans (grown_setCell1 _ _ _ _)⟩
              · rw [if_neg (by omega)] at HF
                have hB' := decide_eq_false hB
                have hC' := decide_eq_false hC
                obtain rfl : R' = RN := HF.out
                go_wp2_with fail
                go_quiet (fail)
                go_wp2
                go_end0
                exact ⟨rfl, E5.out, E7.out.trans (grown_of_below (pw_below_drewN (Below.refl _ _) _) _)⟩
          · rw [if_neg (by omega)] at HF
            have hA' := decide_eq_false hA
            obtain rfl : R' = RN := HF.out
            go_wp2_with fail
            go_quiet (fail)
            go_wp2
            go_end0
            exact ⟨rfl, E5.out, E7.out.trans (grown_of_below (pw_below_drewN (Below.refl _ _) _) _)⟩
      | _ => exact hq3.elim
end Go.Proofs.Ytdpadeklociinaa.PA
