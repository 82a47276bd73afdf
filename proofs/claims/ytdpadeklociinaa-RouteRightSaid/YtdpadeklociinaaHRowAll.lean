import Derived.Test.YtdpadeklociinaaHDefs
import Derived.Deep.MidRow
import Derived.Laws.Cover3
import Derived.Deep.WholeRow
import Derived.Maps.OwnSet
set_option linter.unusedVariables false
namespace Go.Proofs.Ytdpadeklociinaa.PA
open Go.RowKit Go.Maps Go.Proofs.YtdpadeklociinaaW.PrintWords Go.Proofs.YtdpadeklociinaaW.PrintLast Go.Proofs.YtdpadeklociinaaW.PrintMore Go.Proofs.Ytdpadeklociinaa

/-! ### rows of 50 times -/
def rowL (R : List Int) : List Value := R.map (Value.int .i64)
def rowC (R : List Int) : Array Value := (rowL R).toArray
def zeroR : List Int := List.replicate 50 0
theorem zeroR_length : zeroR.length = 50 := by simp [zeroR]
def rowV (R : List Int) : Value := .agg (rowC R)
theorem rowL_length (R : List Int) : (rowL R).length = R.length := List.length_map ..
theorem rowC_size (R : List Int) : (rowC R).size = R.length := by simp [rowC, rowL]
theorem rowL_one (R : List Int) : ∀ u ∈ rowL R, u.oneCell' = true := by
  intro u hu
  obtain ⟨x, _, rfl⟩ := List.mem_map.1 hu
  rfl
theorem rowC_get (R : List Int) (i : Nat) (h : i < R.length) : (rowC R)[i]? = some (.int .i64 (R.getD i 0)) := by
  simp [rowC, rowL, List.getElem?_eq_getElem h, List.getD_eq_getElem?_getD]
theorem rowC_set (R : List Int) (i : Nat) (x : Int) : (rowC R).setIfInBounds i (.int .i64 x) = rowC (R.set i x) := by
  simp [rowC, rowL, List.map_set]
theorem rowL_inj {R S : List Int} (h : rowL R = rowL S) : R = S := by
  unfold rowL at h
  exact List.map_inj_right (fun a b e => by injection e) |>.1 h

theorem info112 : (Try.prog.info? 112).map (fun i => (i.zero, i.size, i.bytes)) = some (some (rowV (List.replicate 50 0)), 50, 400) := by kernel_rfl
theorem size112 : (Try.prog.info? 112).map (·.size) = some 50 := by kernel_rfl

section
variable {ops : Array Oper} {rest : List Oper} {o : Oper} {a : Act} {Q : Exit → Act → World → Prop} {W : World}
theorem row_load (hg : o.guard = none) (x : Operand) (ho : o.op = .load 112 x) (g : Nat) (hx : a.eval x = .pointer (some ⟨g, 0, none⟩)) (R : List Int) (hR : R.length = 50) (hb : W.heap[g]? = some (.cells (rowC R) 112 (0, 0)))
    (h : wpList Try.prog ops Q rest (a.put o.dst (rowV R)) W) : wpList Try.prog ops Q (o :: rest) a W :=
  wpList_plain hg fun K hK => wp_load_row 112 x ho g hx 112 (rowC R) (0, 0) _ hb Try.underlying112 rfl (by rw [rowC_size, hR]; exact size112) (hK _ _ h)

theorem row_store (hg : o.guard = none) (hd : o.dst = none) (x y : Operand) (ho : o.op = .store 112 x y) (g : Nat) (hx : a.eval x = .pointer (some ⟨g, 0, none⟩)) (R R' : List Int) (hR : R.length = 50) (hR' : R'.length = 50) (hy : a.eval y = rowV R')
    (hb : W.heap[g]? = some (.cells (rowC R) 112 (0, 0)))
    (h : ∀ W', W'.heap[g]? = some (.cells (rowC R') 112 (0, 0)) → W.grownBy W' (some g) → W'.heap.size = W.heap.size → wpList Try.prog ops Q rest a W') : wpList Try.prog ops Q (o :: rest) a W := by
  have hst := run_store_run (P := Try.prog) (w := W) (g := g) (o := 0) 112 (rowV R') (rowL R') hb (by simp [rowV, rowC, Value.cells]) (by rw [rowL_length, hR']; exact size112) (by rw [rowL_length, rowC_size]; omega) (rowL_one R')
  obtain ⟨cur', h1, _, h2⟩ := setCells_row (rowL R') 0 W (rowC R) hb (by rw [rowL_length, rowC_size]; omega)
  have h3 : cur' = rowC R' := by
    apply Array.toList_inj.1
    rw [h2, rowL_length, hR', Nat.zero_add, List.take_zero, List.nil_append, List.drop_of_length_le (by rw [Array.length_toList, rowC_size]; omega), List.append_nil]
    simp [rowC]
  subst h3
  obtain ⟨s1, s2, s3, s4⟩ := setCells_same g (rowL R') 0 W
  refine wpList_plain hg fun K hK => ?_
  unfold Oper.wp execOp
  simp only [ho, hx, hy, Sem.run_bind, hst, Result.andThen_ok, Sem.run_pure]
  show K (a.put o.dst undef) _
  rw [hd]
  exact hK _ _ (h _ h1 ⟨s1, s2, s3, Nat.le_of_eq s4.symm, fun k _ hk => setCells_far _ _ k (fun e => hk (by rw [e]))⟩ s4)
end
end Go.Proofs.Ytdpadeklociinaa.PA
set_option linter.unusedVariables false
namespace Go.Proofs.Ytdpadeklociinaa.PA
open Go.RowKit Go.Maps Go.Proofs.YtdpadeklociinaaW.PrintWords Go.Proofs.YtdpadeklociinaaW.PrintLast Go.Proofs.YtdpadeklociinaaW.PrintMore Go.Proofs.Ytdpadeklociinaa

theorem part_row (R : List Int) (i : Nat) (h : i < R.length) (w : World) : (part 3 (rowC R) (i * 1)).run Try.prog w = .ok (.int .i64 (R.getD i 0)) w := by
  have h1 := rowC_get R i h
  have h2 : i < (rowC R).size := by rw [rowC_size]; exact h
  have h3 : (rowC R)[i] = .int .i64 (R.getD i 0) := by
    rw [Array.getElem?_eq_getElem h2] at h1
    exact Option.some.inj h1
  rw [Nat.mul_one]
  go_simp
theorem forIn_all {F : Nat → Option Bool × Unit → Sem (ForInStep (Option Bool × Unit))} (w : World) (p : Nat → Bool) : ∀ (n s : Nat), (∀ i, s ≤ i → i < s + n → (F i (none, ())).run Try.prog w = .ok (if p i = true then .yield (none, ()) else .done (some false, ())) w) →
    (forIn (List.range' s n) (none, ()) F).run Try.prog w = .ok (if ((List.range' s n).all p) = true then (none, ()) else (some false, ())) w
  | 0, s, _ => by simp [List.range']
  | n + 1, s, h => by
    have h0 := h s (Nat.le_refl _) (by omega)
    rw [List.range'_succ, List.forIn_cons, List.all_cons]
    simp only [Sem.run_bind, h0, Result.andThen_ok]
    cases hp : p s with
    | true =>
      simp only [if_true, Bool.true_and]
      exact forIn_all w p n (s + 1) (fun i h1 h2 => h i (by omega) (by omega))
    | false => simp
theorem row_equal (R S : List Int) (hR : R.length = 50) (hS : S.length = 50) (w : World) : (Op.equal 112 (rowV R) (rowV S)).run Try.prog w = .ok (decide (R = S)) w := by
  have hu := Try.underlying112
  unfold Op.equal Op.maxDepth rowV
  rw [Op.equalIn]
  simp only [Sem.run_bind, run_underlying hu, Result.andThen_ok]
  go_simp
  rw [forIn_all w (fun i => decide (R.getD i 0 = S.getD i 0))]
  · rw [Result.andThen_ok]
    by_cases e : R = S
    · subst e
      rw [if_pos (by simp)]
      simp
    · rw [if_neg]
      · simp [e]
      · intro hh
        apply e
        apply List.ext_getElem (by omega)
        intro i h1 h2
        have := List.all_eq_true.1 hh i (by simp; omega)
        simpa [List.getD_eq_getElem?_getD, h1, h2] using this
  · intro i _ hi
    have h1 := part_row R i (by omega) w
    have h2 := part_row S i (by omega) w
    have e1 := rowC_get R i (by omega)
    have e2 := rowC_get S i (by omega)
    go_simp
    split <;> rfl

section
variable {ops : Array Oper} {rest : List Oper} {o : Oper} {a : Act} {Q : Exit → Act → World → Prop} {W : World}
theorem row_alloc (hg : o.guard = none) (ho : o.op = .alloc 112) 
    (h : wpList Try.prog ops Q rest (a.put o.dst (.pointer (some ⟨W.heap.size, 0, none⟩))) (W.alloc (.cells (rowC zeroR) 112))) : wpList Try.prog ops Q (o :: rest) a W := by
  refine Kd.event_run hg ?_ h
  unfold execOp
  simp only [ho]
  go_simp
  rfl
theorem row_box (hg : o.guard = none) (x : Operand) (ho : o.op = .box 112 x) (R : List Int) (hx : a.eval x = rowV R)
    (h : wpList Try.prog ops Q rest (a.put o.dst (.pointer (some ⟨W.heap.size, 0, none⟩))) (W.alloc (.cells (rowC R) 112))) : wpList Try.prog ops Q (o :: rest) a W := by
  refine Kd.event_run hg ?_ h
  unfold execOp
  simp only [ho, hx]
  go_simp
  rfl
theorem row_loadm (hg : o.guard = none) (x : Operand) (ho : o.op = .load 112 x) (g off : Nat) (hx : a.eval x = .pointer (some ⟨g, off, none⟩)) (R : List Int) (hR : R.length = 50) (hb : W.rangeAt g off (rowL R))
    (h : wpList Try.prog ops Q rest (a.put o.dst (rowV R)) W) : wpList Try.prog ops Q (o :: rest) a W :=
  wpList_load_mid hg 112 x ho g off hx (rowL R) _ hb Try.underlying112 rfl (by rw [rowL_length, hR]; exact size112) h
theorem row_eql (hg : o.guard = none) (x y : Operand) (ho : o.op = .binOp .eql 112 x y 112) (R S : List Int) (hR : R.length = 50) (hS : S.length = 50) (hx : a.eval x = rowV R) (hy : a.eval y = rowV S)
    (h : wpList Try.prog ops Q rest (a.put o.dst (.bool (decide (R = S)))) W) : wpList Try.prog ops Q (o :: rest) a W := by
  refine Kd.event_run hg ?_ h
  have he := row_equal R S hR hS W
  unfold execOp
  simp only [ho, hx, hy]
  have hg2 : ∀ w, (eqGuard .eql 112 x y (rowV R) (rowV S)).run Try.prog w = .ok () w := by
    intro w
    simp [eqGuard, rowV, go_sem]
  have hb : (binOp .eql 112 (rowV R) (rowV S)).run Try.prog W = .ok (.bool (decide (R = S))) W := by
    have : binOp .eql 112 (rowV R) (rowV S) = (do pure (.bool (← Op.equal 112 (rowV R) (rowV S)))) := rfl
    rw [this]
    simp only [Sem.run_bind, he, Result.andThen_ok, Sem.run_pure]
  simp only [Sem.run_bind, hg2, Result.andThen_ok, hb, Sem.run_pure]
end

/-- A row of 50 times: an element of 50 cells. -/
def k112 : Kd (List Int) where
  sz := 50
  E := []
  K := fun _ R cs => R.length = 50 ∧ cs = rowL R
  M := fun _ _ _ R cs => R.length = 50 ∧ cs = rowL R
  K_len := fun h => by rw [h.2, rowL_length, h.1]
  K_one := fun h => by rw [h.2]; exact rowL_one _
  K_below := fun _ h => h
  K_of_M := fun h => h
  M_mono := fun _ h => h
  M_bound := fun h => h
  M_move := fun _ h => h
  M_lower := fun _ h => h
end Go.Proofs.Ytdpadeklociinaa.PA
set_option linter.unusedVariables false
namespace Go.Proofs.Ytdpadeklociinaa.PA
open Go.RowKit Go.Maps Go.Proofs.YtdpadeklociinaaW.PrintWords Go.Proofs.YtdpadeklociinaaW.PrintLast Go.Proofs.YtdpadeklociinaaW.PrintMore Go.Proofs.Ytdpadeklociinaa

theorem foldl_put : ∀ (l : List Value) (k : Nat) (z : Array Value), k + l.length ≤ z.size →
    ((l.zipIdx k).foldl (fun (a : Array Value) (p : Value × Nat) => a.setIfInBounds (0 + p.2) p.1) z).toList = z.toList.take k ++ l ++ z.toList.drop (k + l.length)
  | [], k, z, h => by simp
  | c :: l, k, z, h => by
    simp only [List.length_cons] at h
    rw [List.zipIdx_cons, List.foldl_cons, foldl_put l (k + 1) _ (by simp; omega)]
    simp only [Nat.zero_add]
    have hlt : k < z.toList.length := by simp; omega
    have e1 : (z.setIfInBounds k c).toList = z.toList.set k c := by simp
    rw [e1, List.take_succ_eq_append_getElem (by simpa using hlt), List.take_set_of_le (Nat.le_refl k), List.getElem_set_self, List.drop_set_of_lt (by omega)]
    simp [Nat.add_assoc, Nat.add_comm 1]
theorem fill_one (cs z : Array Value) (h : cs.size = z.size) : Instr.fill (fun i => some (i * z.size, z.size)) z [(0, .agg cs)] = some cs := by
  unfold Instr.fill
  simp only [Value.cells, Nat.zero_mul]
  rw [if_neg (by simp [h])]
  unfold Instr.fill
  congr 1
  apply Array.toList_inj.1
  have := foldl_put cs.toList 0 z (by simp; omega)
  rw [List.take_zero, List.nil_append, Nat.zero_add, List.drop_of_length_le (by simp [h]), List.append_nil] at this
  rw [← this, ← Array.foldl_toList, Array.toList_zipIdx]
theorem run_lit (R : List Int) (hR : R.length = 50) (w : World) : (Instr.buildSlice 109 1 #[(0, rowV R)]).run Try.prog w = .ok (.slice (some ⟨w.heap.size, 0, none⟩) 1 1) (w.alloc (.cells (rowC R) 112)) := by
  obtain ⟨i, hi, hz⟩ := Option.map_eq_some_iff.1 info112
  simp only [Prod.mk.injEq] at hz
  obtain ⟨h1, h2, h3⟩ := hz
  have hs : ∀ w, (sizeOf 112).run Try.prog w = .ok 50 w := by
    intro w
    simp [sizeOf, typeInfo, hi, h2, go_sem]
  have hzv : ∀ w, (zeroValue 112).run Try.prog w = .ok (rowV zeroR) w := by
    intro w
    have h1' : i.zero = some (rowV zeroR) := h1
    simp [zeroValue, typeInfo, hi, h1', go_sem]
  have hc : (rowV zeroR).cells = rowC zeroR := rfl
  have hf : ∀ z : Array Value, z.size = 50 → Instr.fill (fun i => some (i * 50, 50)) z [(0, rowV R)] = some (rowC R) := by
    intro z hz
    have := fill_one (rowC R) z (by rw [rowC_size, hR, hz])
    rw [hz] at this
    exact this
  have hz : ((Array.range 50).map (fun j => (rowC zeroR)[j % (rowC zeroR).size]!)).size = 50 := by rw [Array.size_map, Array.size_range]
  unfold Instr.buildSlice
  simp only [Sem.run_bind, run_underlying Try.underlying109, Result.andThen_ok, hs, Nat.one_mul, gt_iff_lt, show ¬ ((2 : Nat) ^ 24 < 50) by decide, if_false, Sem.run_pure, show ¬ ((50 : Nat) = 0) by decide, hzv, hc]
  rw [hf _ hz]
  rfl

section
variable {ops : Array Oper} {rest : List Oper} {o : Oper} {a : Act} {Q : Exit → Act → World → Prop} {W : World}
theorem row_lit (hg : o.guard = none) (x : Operand) (ho : o.op = .buildSlice 109 1 #[(0, x)]) (R : List Int) (hR : R.length = 50) (hx : a.eval x = rowV R)
    (h : wpList Try.prog ops Q rest (a.put o.dst (.slice (some ⟨W.heap.size, 0, none⟩) 1 1)) (W.alloc (.cells (rowC R) 112))) : wpList Try.prog ops Q (o :: rest) a W := by
  refine Kd.event_run hg ?_ h
  have h1 := run_lit R hR W
  unfold execOp
  simp only [ho, List.map_toArray, List.map_cons, List.map_nil, hx, Sem.run_bind, h1, Result.andThen_ok, Sem.run_pure]
end
/-- A row of rows, of one element, that was just laid. -/
theorem R_one (w : World) (R : List Int) (hR : R.length = 50) (base : Nat) (hb : base ≤ w.heap.size) : Kd.R k112 112 (w.alloc (.cells (rowC R) 112)) base (fun _ => True) (.slice (some ⟨w.heap.size, 0, none⟩) 1 1) [R] := by
  refine ⟨fun _ _ => trivial, rowL R, ?_, ?_⟩
  · have := World.ownsRow_lit (base := base) (e := 112) (size := 50) w (rowC R) 1 hb (by simp [maxLen]) (by rw [rowC_size, hR])
    have e : (rowC R).toList = rowL R := by simp [rowC]
    rw [e] at this
    exact this
  · refine ⟨by rw [rowL_length, hR]; rfl, fun j p hj => ?_⟩
    match j, hj with
    | 0, hj =>
      simp at hj
      subst hj
      refine ⟨hR, ?_⟩
      show ((rowL R).drop (0 * 50)).take 50 = rowL R
      simp [List.take_of_length_le, rowL_length, hR]
theorem rows_elem {w : World} {base g cap : Nat} {ok : Nat → Prop} {l : List (List Int)} (h : Kd.R k112 112 w base ok (.slice (some ⟨g, 0, none⟩) l.length cap) l) (i : Nat) (hi : i < l.length) : (l.getD i []).length = 50 ∧ w.rangeAt g (i * 50) (rowL (l.getD i [])) := by
  obtain ⟨c, hc, hM, hcell, hfz⟩ := Kd.R_elem h [] (i : Int) (by omega) (by omega)
  rw [Int.toNat_natCast] at hM hcell
  obtain ⟨h1, rfl⟩ := (hM : _ ∧ _)
  exact ⟨h1, fun j v hv => hcell j v hv⟩

section
variable {ops : Array Oper} {rest : List Oper} {o : Oper} {a : Act} {Q : Exit → Act → World → Prop} {W : World}
/-- The first store into a row that was just laid. -/
theorem row_store_new (hg : o.guard = none) (hd : o.dst = none) (x y : Operand) (ho : o.op = .store 112 x y) (hx : a.eval x = .pointer (some ⟨W.heap.size, 0, none⟩)) (R : List Int) (hR : R.length = 50) (hy : a.eval y = rowV R)
    (h : wpList Try.prog ops Q rest a (W.alloc (.cells (rowC R) 112))) : wpList Try.prog ops Q (o :: rest) a (W.alloc (.cells (rowC zeroR) 112)) := by
  have h1 : (rowC R).all (·.oneCell') = true := by
    rw [Array.all_eq_true]
    intro i hi
    have := rowL_one R (rowC R)[i] (by simp [rowC])
    exact this
  have hst := run_storeVar_new (P := Try.prog) W 112 (rowC zeroR) (rowC R) (by rw [rowC_size, hR]; exact size112) (by rw [rowC_size, rowC_size, hR, zeroR_length]) h1
  refine wpList_plain hg fun K hK => ?_
  unfold Oper.wp execOp
  simp only [ho, hx, hy, rowV, Instr.storeAt, Instr.sureAddr, Sem.run_bind, Sem.run_pure, Result.andThen_ok, hst]
  show K (a.put o.dst undef) _
  rw [hd]
  exact hK _ _ h
theorem row_eqlb (hg : o.guard = none) (x y : Operand) (ho : o.op = .binOp .eql 112 x y 112) (R S : List Int) (b : Bool) (hR : R.length = 50) (hS : S.length = 50) (hx : a.eval x = rowV R) (hy : a.eval y = rowV S) (hb : decide (R = S) = b)
    (h : wpList Try.prog ops Q rest (a.put o.dst (.bool b)) W) : wpList Try.prog ops Q (o :: rest) a W := by
  subst hb
  exact row_eql hg x y ho R S hR hS hx hy h
end
end Go.Proofs.Ytdpadeklociinaa.PA
set_option linter.unusedVariables false
namespace Go.Proofs.Ytdpadeklociinaa.PA
open Go.RowKit Go.Maps Go.Proofs.YtdpadeklociinaaW.PrintWords Go.Proofs.YtdpadeklociinaaW.PrintLast Go.Proofs.YtdpadeklociinaaW.PrintMore Go.Proofs.Ytdpadeklociinaa
theorem eql_nil (t e : TypeId) (a : Option Addr) (l c : Nat) (w : World) (h : Try.prog.underlying t = some (.slice e)) : (binOp .eql t (.slice a l c) (.slice none 0 0)).run Try.prog w = .ok (.bool a.isNone) w := by
  simp [binOp, run_equal_slice_nil w t e a l c h, go_sem]
set_option maxRecDepth 100000 in
theorem slices_Clone_int_int.calls (A0 : Option Addr) (c0 : Nat) (l0 : List Int) (r : List Int) (w : World) (hr0 : Kd.C (Kd.int .i64) w A0 l0.length l0) (hc0 : l0.length ≤ c0) (h : slices_Clone_int_int.f l0 = some r) :
    Calls Try.prog 63 #[.slice A0 l0.length c0] w fun e w' => ∃ v0_ : Value, e = .returned (v0_) ∧ Kd.R (Kd.int .i64) 3 w' w.heap.size (fun _ => True) v0_ r ∧ Below w.heap.size w w' := by
  unfold slices_Clone_int_int.f at h
  split at h
  case isFalse => cases h
  case isTrue hb =>
  injection h with h
  subst h
  have HR0 := Aside0.mk hr0
  clear hr0
  have hnil := fun (A : Option Addr) (l c : Nat) (w : World) => eql_nil 27 3 A l c w Try.underlying27
  cases A0 with
  | none =>
    have hl : l0 = [] := by
      cases l0 with
      | nil => rfl
      | cons x xs => obtain ⟨ad, h, _⟩ := Kd.at_int HR0.out 0 (by omega) (by simp); cases h
    subst hl
    go_enter Try.func63, Try.ntmps63
    go_wp2
    go_ret
    exact ⟨_, rfl, Kd.R_nil _ _ _ _ _, Below.refl _ _⟩
  | some ad =>
    have H0 : Aside0 (Kd.R (Kd.int .i64) 3 (w.alloc (.cells #[] 3)) w.heap.size (fun _ => True) (.slice (some ⟨w.heap.size, 0, none⟩) 0 0) []) :=
      ⟨Kd.R_of_own (World.ownsRow_lit (base := w.heap.size) (e := 3) (size := 1) w #[] 0 (Nat.le_refl _) (by simp [maxLen]) rfl) (fun _ _ => trivial)⟩
    have HR1 := Aside0.mk (Kd.C_below HR0.out (below_alloc (Below.refl _ _) (.cells #[] 3)))
    go_enter Try.func63, Try.ntmps63
    go_wp2_with ((with_reducible refine gate_builtin (b := .append) (xs := #[.tmp 5, .tmp 6]) rfl ?_); at_builtin; refine Kd.R_append_row (w0 := w) (Value.int .i64) 0 (h1 := fun _ => rfl) w.heap.size rfl (.tmp 5) (.tmp 6) 27 3 (.int .i64 0) 8 rfl Try.underlying27 (by kernel_rfl) rfl (by decide) _ [] l0 _ _ _ (fun _ => True) rfl rfl (fun _ _ => trivial) H0.out HR1.out (below_alloc (Below.refl _ _) _) (by simp) (by simp; omega) ?_; intro v1 w1 hR hB hG hat; have HR2 := Aside0.mk hR; have HB2 := Aside0.mk hB; clear hR hB hG hat)
    go_ret
    exact ⟨_, rfl, HR2.out, HB2.out⟩

set_option maxRecDepth 100000 in
theorem slices_Clone_Leg.calls (A0 : Option Addr) (c0 : Nat) (l0 : List S23) (w : World) (hr0 : Kd.C k23 w A0 l0.length l0) (hc0 : l0.length ≤ c0) (hb : l0.length ≤ 17592186044400 / 8) :
    Calls Try.prog 90 #[.slice A0 l0.length c0] w fun e w' => ∃ v0_ : Value, e = .returned (v0_) ∧ Kd.R k23 23 w' w.heap.size (fun _ => True) v0_ l0 ∧ Below w.heap.size w w' := by
  have HR0 := Aside0.mk hr0
  clear hr0
  have hnil := fun (A : Option Addr) (l c : Nat) (w : World) => eql_nil 25 23 A l c w Try.underlying25
  cases A0 with
  | none =>
    have hl : l0 = [] := by
      cases l0 with
      | nil => rfl
      | cons x xs => obtain ⟨ad, h, _⟩ := at_T23 HR0.out 0 (by omega) (by simp); cases h
    subst hl
    go_enter Try.func90, Try.ntmps90
    go_wp2
    go_ret
    exact ⟨_, rfl, Kd.R_nil _ _ _ _ _, Below.refl _ _⟩
  | some ad =>
    have H0 : Aside0 (Kd.R k23 23 (w.alloc (.cells #[] 23)) w.heap.size (fun _ => True) (.slice (some ⟨w.heap.size, 0, none⟩) 0 0) []) :=
      ⟨⟨fun _ _ => trivial, [], World.ownsRow_lit (base := w.heap.size) (e := 23) (size := k23.sz) w #[] 0 (Nat.le_refl _) (by simp [maxLen]) (by simp), ⟨by simp, fun j p h => by simp at h⟩⟩⟩
    have HR1 := Aside0.mk (Kd.C_below HR0.out (below_alloc (Below.refl _ _) (.cells #[] 23)))
    go_enter Try.func90, Try.ntmps90
    go_wp2_with ((with_reducible refine gate_builtin (b := .append) (xs := #[.tmp 5, .tmp 6]) rfl ?_); at_builtin; refine Kd.R_append_rows (w0 := w) k23 w.heap.size rfl (.tmp 5) (.tmp 6) 25 23 (.agg #[(.int .i64 0), (.int .i64 0), (.int .i64 0), (.int .i64 0), (.int .i64 0), (.int .i64 0), (.int .i64 0), (.int .u8 0)]) 64 rfl Try.underlying25 info23 rfl (by decide) (by decide) _ [] l0 _ _ _ (fun _ => True) (fun _ => False) rfl rfl H0.out HR1.out (fun x cs h => by obtain rfl := k23_open h; exact k23_mkM _ _ _ x) (fun _ h => h.elim) (fun _ _ => trivial) (below_alloc (Below.refl _ _) _) (by simp) (by simp; omega) ?_; intro v1 w1 hR hB hG hat; have HR2 := Aside0.mk hR; have HB2 := Aside0.mk hB; clear hR hB hG hat)
    go_ret
    exact ⟨_, rfl, HR2.out, HB2.out⟩
end Go.Proofs.Ytdpadeklociinaa.PA
set_option linter.unusedVariables false
namespace Go.Proofs.Ytdpadeklociinaa.PA
open Go.RowKit Go.Maps Go.Proofs.YtdpadeklociinaaW.PrintWords Go.Proofs.YtdpadeklociinaaW.PrintLast Go.Proofs.YtdpadeklociinaaW.PrintMore Go.Proofs.Ytdpadeklociinaa

def noneR : List Int := List.replicate 50 (-1)
def upTo (k : Nat) : List Int := List.replicate k (-1) ++ List.replicate (50 - k) 0
theorem upTo_length (k : Nat) (h : k ≤ 50) : (upTo k).length = 50 := by simp [upTo]; omega
theorem upTo_set (k : Nat) (h : k < 50) : (upTo k).set k (-1) = upTo (k + 1) := by
  unfold upTo
  have e : 50 - k = (50 - (k + 1)) + 1 := by omega
  rw [e, List.replicate_succ, List.set_append_right _ _ (by simp)]
  simp [List.replicate_succ']
theorem upTo_full : upTo 50 = noneR := by simp [upTo, noneR]
theorem upTo_zero : upTo 0 = zeroR := by simp [upTo, zeroR]
set_option maxRecDepth 100000 in
theorem route_none.calls (w : World) : Calls Try.prog 93 #[] w fun e w' => e = .returned (rowV noneR) ∧ Below w.heap.size w w' := by
  go_enter Try.func93, Try.ntmps93
  go_wp2_with (first | ((with_reducible refine gate_dst (N := 0) rfl ?_); refine row_alloc rfl rfl ?_) | ((with_reducible refine gate_dst (N := 1) rfl ?_); refine row_alloc rfl rfl ?_))
  go_loopw [3] (fun i wr => ∃ x : Int, i = .int .i64 x ∧ Aside0 (0 ≤ x ∧ x ≤ 50) ∧ Aside0 (wr.heap[w.heap.size]? = some (.cells (rowC zeroR) 112 (0, 0))) ∧ Aside0 (wr.heap[w.heap.size + 1]? = some (.cells (rowC (upTo x.toNat)) 112 (0, 0))) ∧ Aside0 (Below w.heap.size w wr)) (fun i _ => 50 - (intOf i).toNat)
  case atStart =>
    refine ⟨0, rfl, ⟨by omega⟩, ⟨?_⟩, ⟨?_⟩, ⟨((Below.refl _ _).alloc (Nat.le_refl _) _).alloc (by simp) _⟩⟩
    · exact blk_alloc (blk_new w _) _
    · have := blk_new (w.alloc (.cells (rowC zeroR) 112)) (.cells (rowC zeroR) 112)
      simpa [upTo_zero] using this
  case round =>
    obtain ⟨x, rfl, HX, B0, B1, HB⟩ := hrel
    have hx0 : 0 ≤ x := HX.out.1
    by_cases hx : x < 50
    · have hc : wr.cell? ⟨w.heap.size + 1, x.toNat, none⟩ = some (.int .i64 ((upTo x.toNat).getD x.toNat 0)) := (blk_cell B1.out x.toNat).trans (rowC_get _ _ (by rw [upTo_length _ (by omega)]; omega))
      have hf := blk_frozen B1.out x.toNat
      go_wp2
      go_roundw
      case rel =>
        refine ⟨x + 1, rfl, ⟨by omega⟩, ⟨blk_far B0.out (by simp) _⟩, ⟨?_⟩, ⟨HB.out.setCell (by simp) _⟩⟩
        rw [show (x + 1).toNat = x.toNat + 1 by omega, ← upTo_set _ (by omega)]
        exact blk_put B1.out _ _ (rowC_set _ _ _)
      case measure => simp [intOf]; omega
    · obtain rfl : x = 50 := by have := HX.out; omega
      have HU : Aside0 (wr.heap[w.heap.size + 1]? = some (.cells (rowC noneR) 112 (0, 0))) := ⟨by rw [← upTo_full]; exact B1.out⟩
      have hN : noneR.length = 50 := by simp [noneR]
      clear B1
      go_wp2_with (first | ((with_reducible refine gate_dst (N := 9) rfl ?_); refine row_load rfl (.tmp 1) rfl (w.heap.size + 1) rfl noneR hN HU.out ?_) | ((with_reducible refine gate_store (t := 112) (p := 0) rfl ?_); refine row_store rfl rfl (.tmp 0) (.tmp 9) rfl w.heap.size rfl zeroR noneR zeroR_length hN rfl B0.out ?_; intro w2 hb hg hs; have HB2 := Aside0.mk hb; have HG2 := Aside0.mk hg; clear hb hg hs))
      refine bodyPost_ret (results_cell_row (p := 0) rfl _ _ w.heap.size 112 (rowC noneR) (0, 0) _ rfl HB2.out Try.underlying112 rfl (by rw [rowC_size, hN]; exact size112)) rfl ⟨rfl, ?_⟩
      exact HB.out.grown HG2.out HB.out.size (fun k e => by cases e; exact Nat.le_refl _)
end Go.Proofs.Ytdpadeklociinaa.PA
set_option linter.unusedVariables false
namespace Go.Proofs.Ytdpadeklociinaa.PA
open Go.RowKit Go.Maps Go.Proofs.YtdpadeklociinaaW.PrintWords Go.Proofs.YtdpadeklociinaaW.PrintLast Go.Proofs.YtdpadeklociinaaW.PrintMore Go.Proofs.Ytdpadeklociinaa

def posOf (pl : List Int) (p : Int) : Int := if p ∈ pl then (pl.idxOf p : Int) else 0
def rowOf (ef : Option Int → Int) (pl : List Int) (r : Net.Row) : List Int := (List.range 50).map fun i => match pl[i]? with | some p => ef (r p) | none => -1
theorem rowOf_length (ef : Option Int → Int) (pl : List Int) (r : Net.Row) : (rowOf ef pl r).length = 50 := by simp [rowOf]
theorem rowOf_get (ef : Option Int → Int) (pl : List Int) (r : Net.Row) (i : Nat) (h : i < pl.length) (h50 : pl.length ≤ 50) : (rowOf ef pl r).getD i 0 = ef (r (pl.getD i 0)) := by
  unfold rowOf
  rw [List.getD_eq_getElem?_getD, List.getElem?_map, List.getElem?_range (by omega), List.getD_eq_getElem?_getD, List.getElem?_eq_getElem h]
  simp [h]
theorem posOf_lt {pl : List Int} {p : Int} (h : p ∈ pl) : 0 ≤ posOf pl p ∧ (posOf pl p).toNat < pl.length ∧ pl.getD (posOf pl p).toNat 0 = p := by
  unfold posOf
  rw [if_pos h]
  have h1 := List.idxOf_lt_length_of_mem h
  refine ⟨by omega, by simpa using h1, ?_⟩
  rw [Int.toNat_natCast, List.getD_eq_getElem?_getD, List.getElem?_eq_getElem h1]
  simp
theorem rowOf_at {ef : Option Int → Int} {pl : List Int} {p : Int} (h : p ∈ pl) (h50 : pl.length ≤ 50) (r : Net.Row) : (rowOf ef pl r).getD (posOf pl p).toNat 0 = ef (r p) := by
  obtain ⟨h0, h1, h2⟩ := posOf_lt h
  rw [rowOf_get _ _ _ _ h1 h50, h2]
theorem rowOf_set {ef : Option Int → Int} {pl : List Int} {p : Int} (hn : pl.Nodup) (h : p ∈ pl) (h50 : pl.length ≤ 50) (r : Net.Row) (v : Option Int) :
    (rowOf ef pl r).set (posOf pl p).toNat (ef v) = rowOf ef pl (fun x => if x = p then v else r x) := by
  obtain ⟨h0, h1, h2⟩ := posOf_lt h
  generalize hk : (posOf pl p).toNat = k at h1 h2
  apply List.ext_getElem (by simp [rowOf])
  intro i h3 h4
  have hi : i < 50 := by simpa [rowOf] using h4
  rw [List.getElem_set]
  simp only [rowOf, List.getElem_map, List.getElem_range]
  by_cases e : k = i
  · subst e
    rw [List.getD_eq_getElem?_getD, List.getElem?_eq_getElem h1] at h2
    simp only [Option.getD_some] at h2
    simp [List.getElem?_eq_getElem h1, h2]
  · rw [if_neg e]
    by_cases hi2 : i < pl.length
    · rw [List.getElem?_eq_getElem hi2]
      dsimp only
      have : pl[i] ≠ p := by
        intro e2
        apply e
        rw [List.getD_eq_getElem?_getD, List.getElem?_eq_getElem h1] at h2
        simp only [Option.getD_some] at h2
        exact (List.getElem_inj (xs := pl) (i := k) (j := i) (h₀ := h1) (h₁ := hi2) hn).1 (by rw [h2, e2])
      rw [if_neg this]
    · rw [List.getElem?_eq_none (by omega)]
theorem rowOf_none {ef : Option Int → Int} (he : ef none = -1) (pl : List Int) : rowOf ef pl (fun _ => none) = noneR := by
  apply List.ext_getElem (by simp [rowOf, noneR])
  intro i h1 h2
  simp only [rowOf, List.getElem_map, List.getElem_range, noneR, List.getElem_replicate]
  split <;> simp [he]
theorem rowOf_inj {ef : Option Int → Int} {pl : List Int} (h50 : pl.length ≤ 50) {r s : Net.Row} (h : rowOf ef pl r = rowOf ef pl s) : ∀ p ∈ pl, ef (r p) = ef (s p) := by
  intro p hp
  rw [← rowOf_at (ef := ef) hp h50 r, ← rowOf_at (ef := ef) hp h50 s, h]
/-- A row that has no place outside the plants, and whose values the row of numbers tells. -/
structure RowOk (G : Int → Prop) (pl : List Int) (r : Net.Row) : Prop where
  none : ∀ p, p ∉ pl → r p = .none
  good : ∀ p v, r p = some v → G v
theorem RowOk.ext {G : Int → Prop} {ef : Option Int → Int} (hinj : ∀ a b : Option Int, (∀ v, a = some v → G v) → (∀ v, b = some v → G v) → ef a = ef b → a = b) {pl : List Int} (h50 : pl.length ≤ 50) {r s : Net.Row} (hr : RowOk G pl r) (hs : RowOk G pl s) (h : rowOf ef pl r = rowOf ef pl s) : r = s := by
  funext p
  by_cases hp : p ∈ pl
  · exact hinj _ _ (hr.good p) (hs.good p) (rowOf_inj h50 h p hp)
  · rw [hr.none p hp, hs.none p hp]
theorem RowOk.relax {G : Int → Prop} {pl : List Int} {L N : Net.Row} (hL : RowOk G pl L) (hN : RowOk G pl N) (e : Net.Edge) (hd : e.dst ∈ pl) (hg : ∀ t v, e.g t = some v → G v) : RowOk G pl (Net.relax1 L N e) where
  none := fun p hp => by
    cases h : Net.relax1 L N e p with
    | none => rfl
    | some v =>
      rcases Net.relax1_only h with h1 | ⟨rfl, _⟩
      · rw [hN.none p hp] at h1; cases h1
      · exact absurd hd hp
  good := fun p v h => by
    rcases Net.relax1_only h with h1 | ⟨rfl, t, _, ht⟩
    · exact hN.good p v h1
    · exact hg t v ht
theorem RowOk.fold {G : Int → Prop} {pl : List Int} {L : Net.Row} (hL : RowOk G pl L) : ∀ (E : List Net.Edge) (N : Net.Row), RowOk G pl N → (∀ e ∈ E, e.dst ∈ pl ∧ ∀ t v, e.g t = some v → G v) → RowOk G pl (E.foldl (Net.relax1 L) N)
  | [], N, hN, _ => hN
  | e :: E, N, hN, h => RowOk.fold hL E _ (hL.relax hN e (h e (by simp)).1 (h e (by simp)).2) (fun e he => h e (by simp [he]))
theorem RowOk.step {G : Int → Prop} {pl : List Int} {L : Net.Row} (hL : RowOk G pl L) (E : List Net.Edge) (h : ∀ e ∈ E, e.dst ∈ pl ∧ ∀ t v, e.g t = some v → G v) : RowOk G pl (Net.step E L) := RowOk.fold hL E L hL h
theorem RowOk.rows {G : Int → Prop} {pl : List Int} {first : Net.Row} (hf : RowOk G pl first) (E : List Net.Edge) (h : ∀ e ∈ E, e.dst ∈ pl ∧ ∀ t v, e.g t = some v → G v) : ∀ k, RowOk G pl (Net.rows E first k)
  | 0 => hf
  | k + 1 => (RowOk.rows hf E h k).step E h
end Go.Proofs.Ytdpadeklociinaa.PA
set_option linter.unusedVariables false
namespace Go.Proofs.Ytdpadeklociinaa.PA
open Go.RowKit Go.Maps Go.Proofs.YtdpadeklociinaaW.PrintWords Go.Proofs.YtdpadeklociinaaW.PrintLast Go.Proofs.YtdpadeklociinaaW.PrintMore Go.Proofs.Ytdpadeklociinaa

/-- Block b is a map that tells the place of each plant. -/
def PosIs (w : World) (b n : Nat) (pl : List Int) : Prop :=
  ∃ D : DataW Unit, w.ownsMap Try.prog 3 (plainElem Try.prog 3) b n D ∧ IsMap D ∧ ∀ (p : Int) (z : DataW Unit), D.atKey (.int .i64 p) z = if p ∈ pl then .lit (.int .i64 (pl.idxOf p : Int)) else z
theorem PosIs.made (w : World) : PosIs (w.alloc (.map #[] 0)) w.heap.size 0 [] := ⟨_, World.ownsMap_made _ _ _ _, isMap_empty, fun _ _ => rfl⟩
theorem PosIs.kept {w w' : World} {b n : Nat} {pl : List Int} {row : Option Nat} (h : PosIs w b n pl) (hg : w.grownBy w' row) (hne : some b ≠ row) : PosIs w' b n pl := let ⟨D, h1, h2, h3⟩ := h; ⟨D, h1.kept hg hne, h2, h3⟩
theorem PosIs.alloc {w : World} {b n : Nat} {pl : List Int} (h : PosIs w b n pl) (o : Obj) : PosIs (w.alloc o) b n pl := h.kept (World.grownBy_alloc w o none) (by simp)
theorem PosIs.below {w w' : World} {b n : Nat} {pl : List Int} (h : PosIs w b n pl) (hb : Below w.heap.size w w') : PosIs w' b n pl := h.kept (grown_of_below hb none) (by simp)
theorem PosIs.lt {w : World} {b n : Nat} {pl : List Int} (h : PosIs w b n pl) : b < w.heap.size := h.choose_spec.1.lt
theorem PosIs.map {w : World} {b n : Nat} {pl : List Int} (h : PosIs w b n pl) : MapIs w b n (posOf pl) := by
  obtain ⟨D, h1, h2, h3⟩ := h
  refine ⟨D, h1, h2, fun p => ?_⟩
  rw [h3]
  unfold posOf
  split <;> rfl
theorem PosIs.ne_cells {w : World} {b n g : Nat} {pl : List Int} {cs : Array Value} {e : TypeId} {fr : Nat × Nat} (hm : PosIs w b n pl) (hz : w.heap[g]? = some (.cells cs e fr)) : b ≠ g := by
  rintro rfl
  obtain ⟨D, ⟨es, clock, h1, _⟩, _⟩ := hm
  rw [hz] at h1
  cases h1
theorem PosIs.ne_legs {w : World} {b n base : Nat} {pl : List Int} {v : Value} {l : List S23} (hm : PosIs w b n pl) (hR : Kd.R k23 23 w base (fun _ => True) v l) : some b ≠ v.ownBlock := by
  intro e
  obtain ⟨cells, hc⟩ := Kd.R_typed hR b e.symm
  exact hm.ne_cells hc rfl
theorem PosIs.legs {w : World} {b n base : Nat} {pl : List Int} {v : Value} {l : List S23} (hm : PosIs w b n pl) (hR : Kd.R k23 23 w base (fun _ => True) v l) : Kd.R k23 23 w base (fun k => k ≠ b) v l :=
  Kd.R_mono (Kd.R_bound hR) (fun k hk => by
    obtain ⟨_, _, _, q, hq, cells, hc⟩ := hk
    exact fun e => hm.ne_cells hc e.symm)
section
variable {ops : Array Oper} {rest : List Oper} {o : Oper} {a : Act} {Q : Exit → Act → World → Prop} {w : World}
theorem pos_has (hg : o.guard = none) (x y : Operand) (hop : o.op = Op.lookup 53 x y true) (b n : Nat) (pl : List Int) (hx : a.eval x = .map (some b)) (h : PosIs w b n pl) (p : Int) (hy : a.eval y = .int .i64 p) (hp : I64 p)
    (hK : wpList Try.prog ops Q rest (a.put o.dst (.tuple #[.int .i64 (posOf pl p), .bool (pl.contains p)])) w) : wpList Try.prog ops Q (o :: rest) a w := by
  obtain ⟨D, h1, h2, h3⟩ := h
  refine wpList_lookup_own_ok_int (H := Unit) w hg x y 53 hop 3 3 .i64 law3 Try.underlying53 Try.underlying3 (zero3 _) b n D hx h1 _ _ hy (keyOf_int_mk Try.underlying3 hp.wf) fun c hat _ => ?_
  by_cases hm : p ∈ pl
  · have e1 : Maps.has D (.int .i64 p) = true := has_true_of_atKey (fun z => by rw [h3, if_pos hm])
    rw [h3, if_pos hm] at hat
    injection hat with hat
    injection hat with _ hat
    rw [e1, ← hat]
    have e2 : posOf pl p = (pl.idxOf p : Int) := if_pos hm
    have e3 : pl.contains p = true := by simpa using hm
    rw [e2, e3] at hK
    exact hK
  · have e1 : Maps.has D (.int .i64 p) = false := has_false_of_atKey (fun z => by rw [h3, if_neg hm])
    rw [h3, if_neg hm] at hat
    injection hat with hat
    injection hat with _ hat
    rw [e1, ← hat]
    have e2 : posOf pl p = 0 := if_neg hm
    have e3 : pl.contains p = false := by simpa using hm
    rw [e2, e3] at hK
    exact hK
theorem pos_store (hg : o.guard = none) (x y v : Operand) (hop : o.op = Op.mapUpdate 53 x y v) (b n : Nat) (pl : List Int) (hx : a.eval x = .map (some b)) (h : PosIs w b n pl) (hn : n < 4000000000) (p : Int) (hy : a.eval y = .int .i64 p) (hp : I64 p) (hv : a.eval v = .int .i64 pl.length) (hpl : pl.length ≤ 1000) (hnew : p ∉ pl)
    (hK : ∀ w', PosIs w' b (n + 1) (pl ++ [p]) → w.grownBy w' (some b) → wpList Try.prog ops Q rest (a.put o.dst undef) w') : wpList Try.prog ops Q (o :: rest) a w := by
  obtain ⟨D, h1, h2, h3⟩ := h
  have hc : I64 pl.length := ⟨by omega, by omega⟩
  refine wpList_mapUpdate_own (H := Unit) w hg x y v 53 hop 3 3 law3 Try.underlying53 _ b n D hx h1 (by unfold maxLen; omega) _ _ _ hy hv (keyOf_int_mk Try.underlying3 hp.wf) _ _ (plainElem_int Try.underlying3 hc.wf) fun w' ho hg' => ?_
  refine hK w' ⟨_, ho, h2.put _ _, fun q z => ?_⟩ hg'
  by_cases e : q = p
  · subst e
    rw [atKey_put_same h2 (by trivial) _ _, if_pos (by simp), List.idxOf_append, if_neg hnew]
    simp
  · rw [atKey_put_other (fun e' => e (by injection e')) _ _, h3]
    by_cases hm : q ∈ pl
    · rw [if_pos hm, if_pos (by simp [hm]), List.idxOf_append, if_pos hm]
    · rw [if_neg hm, if_neg (by simp [hm, e])]
end
end Go.Proofs.Ytdpadeklociinaa.PA
