import Derived.Test.YtdpadeklociinaaHSort0
import Derived.Test.YtdpadeklociinaaHRowAll
import Derived.Test.YtdpadeklociinaaNAll
set_option linter.unusedVariables false
namespace Go.Proofs.Ytdpadeklociinaa.PA
open Go.RowKit Go.Maps Go.Proofs.YtdpadeklociinaaW.PrintWords Go.Proofs.YtdpadeklociinaaW.PrintLast Go.Proofs.YtdpadeklociinaaW.PrintMore Go.Proofs.Ytdpadeklociinaa
open Go.Sort hiding Below
open Go.Shelf

instance : Inhabited S23 := ⟨z23⟩
def encL (x : S23) : List Value := [.int .i64 x.f0, .int .i64 x.f1, .int .i64 x.f2, .int .i64 x.f3, .int .i64 x.f4, .int .i64 x.f5, .int .i64 x.f6, .int .u8 x.f7]
theorem encL_length (x : S23) : (encL x).length = 8 := rfl
theorem encL_one (x : S23) : ∀ v ∈ encL x, v.oneCell' = true := by
  intro v hv
  simp only [encL, List.mem_cons, List.not_mem_nil, or_false] at hv
  rcases hv with rfl | rfl | rfl | rfl | rfl | rfl | rfl | rfl <;> rfl

theorem legs_holds {w : World} {base g cap : Nat} {ok : Nat → Prop} {l : List S23} (h : Kd.R k23 23 w base ok (.slice (some ⟨g, 0, none⟩) l.length cap) l) : HoldsK encL 8 w g 0 l.toArray := by
  intro j hj
  rw [size_flatK] at hj
  have hj' : j < l.length * 8 := by simpa using hj
  obtain ⟨c, hc, hM, hcell, hfz⟩ := Kd.R_elem h z23 ((j / 8 : Nat) : Int) (by omega) (by omega)
  obtain rfl := k23_openM hM
  have e1 : (((j / 8 : Nat) : Int).toNat) = j / 8 := by omega
  rw [e1] at hcell hfz
  have hsz : k23.sz = 8 := rfl
  rw [hsz] at hcell hfz
  have e2 : 0 + j = j / 8 * 8 + j % 8 := by omega
  rw [e2]
  refine ⟨hcell (j % 8) _ ?_, hfz (j % 8)⟩
  rw [get_flatK _ _ _ _ (by simpa using hj)]
  have e3 : l.toArray[j / 8]! = l.getD (j / 8) z23 := by
    have : j / 8 < l.length := by omega
    rw [List.getD_eq_getElem?_getD, List.getElem?_eq_getElem this]
    simp [this]
  rw [e3]
  have hlt : j % 8 < (encL (l.getD (j / 8) z23)).length := by rw [encL_length]; omega
  have : (encL (l.getD (j / 8) z23))[j % 8]? = some ((encL (l.getD (j / 8) z23))[j % 8]!) := by
    rw [List.getElem?_eq_getElem hlt, getElem!_pos (encL (l.getD (j / 8) z23)) (j % 8) hlt]
  exact this
theorem heap_grow_old (w : World) (os : Array Obj) (i : Nat) (h : i < w.heap.size) : (grow w os).heap[i]? = w.heap[i]? := by
  simp [grow, Array.getElem?_append, h]
theorem sortWorld_block (w : World) (g n : Nat) (d : Array S23) (os : Array Obj) {cur : Array Value} {e : TypeId} {fr : Nat × Nat} (hb : w.heap[g]? = some (.cells cur e fr)) :
    (sortWorldK encL 8 w g 0 n d os).heap[g]? = some (.cells (Sort.putCells id 0 (flatK encL 8 d) cur) e fr) := by
  have hlt := blk_lt hb
  unfold sortWorldK putRowK
  rw [heap_grow_old _ _ _ (by simpa [Sort.putRow, Sort.mapBlock, Sort.ahead] using hlt)]
  simp only [Sort.putRow, Sort.mapBlock, Sort.ahead, Array.getElem?_modify, if_true, hb, Option.map_some, Sort.onCells]
theorem sortWorld_grown (w : World) (g n : Nat) (d : Array S23) (os : Array Obj) : w.grownBy (sortWorldK encL 8 w g 0 n d os) (some g) := by
  refine ⟨rfl, rfl, rfl, ?_, fun k hk hne => ?_⟩
  · simp [sortWorldK, grow, putRowK, Sort.putRow, Sort.mapBlock, Sort.ahead]
  · unfold sortWorldK putRowK
    rw [heap_grow_old _ _ _ (by simpa [Sort.putRow, Sort.mapBlock, Sort.ahead] using hk)]
    have : g ≠ k := fun e => hne (by rw [e])
    simp [Sort.putRow, Sort.mapBlock, Sort.ahead, Array.getElem?_modify, this]
theorem legs_after {w : World} {base g cap : Nat} {ok : Nat → Prop} {l : List S23} (h : Kd.R k23 23 w base ok (.slice (some ⟨g, 0, none⟩) l.length cap) l) (n : Nat) (d : Array S23) (os : Array Obj) (hs : d.size = l.length) :
    Kd.R k23 23 (sortWorldK encL 8 w g 0 n d os) base ok (.slice (some ⟨g, 0, none⟩) d.toList.length cap) d.toList := by
  obtain ⟨hok, inner, ⟨hl, ho⟩, hr⟩ := h
  rcases ho with ⟨ho, _⟩ | ⟨g', cap', cur, hv, hbase, hb, hnc, hmax, hsz, htake⟩
  · cases ho
  · injection hv with h1 h2 h3
    injection h1 with h1
    injection h1 with h1
    subst h1 h3
    have hdl : d.toList.length = l.length := by simpa using hs
    rw [hdl]
    refine ⟨hok, (flatK encL 8 d).toList, ⟨by simp [hs]; rfl, .inr ⟨g, cap, _, by rw [hdl], hbase, sortWorld_block w g n d os hb, by rw [hdl]; exact hnc, hmax, by simpa [Sort.putCells] using hsz, ?_⟩⟩, ?_⟩
    · have h8 : k23.sz = 8 := rfl
      rw [h8] at hsz ⊢
      rw [hdl]
      apply List.ext_getElem
      · simp [Sort.putCells, hsz, hs]; omega
      · intro i h1 h2
        have hi : i < l.length * 8 := by simpa [hs] using h2
        simp [Sort.putCells, hs, hi]
    · have h8 : k23.sz = 8 := rfl
      refine ⟨by simp [h8], fun j p hj => ?_⟩
      have hjl : j < d.size := by
        have := (List.getElem?_eq_some_iff.1 hj).1
        simpa using this
      have hp : d[j]! = p := by
        rw [getElem!_pos d j hjl]
        have := (List.getElem?_eq_some_iff.1 hj).2
        simpa using this
      have : ((flatK encL 8 d).toList.drop (j * k23.sz)).take k23.sz = encL p := by
        rw [h8]
        apply List.ext_getElem
        · simp [encL_length]; omega
        · intro i h1 h2
          have hi : i < 8 := by simpa [encL_length] using h2
          have hlt : j * 8 + i < d.size * 8 := by omega
          simp only [List.getElem_take, List.getElem_drop, Array.getElem_toList]
          have e := get_flatK encL 8 d (j * 8 + i) hlt
          rw [getElem!_pos _ _ (by simpa using hlt)] at e
          rw [e, show (j * 8 + i) / 8 = j by omega, show (j * 8 + i) % 8 = i by omega, hp, getElem!_pos _ _ (by rw [encL_length]; omega)]
      rw [this]
      exact k23_mkM _ _ _ p

theorem swoId : SWO (ltOf fun x y : S23 => Lib.compareInt x.f0 y.f0) := by
  have e : ∀ x y : S23, ltOf (fun x y : S23 => Lib.compareInt x.f0 y.f0) x y = decide (x.f0 < y.f0) := by
    intro x y
    unfold ltOf Lib.compareInt
    by_cases h1 : x.f0 < y.f0
    · simp [h1]
    · by_cases h2 : y.f0 < x.f0 <;> simp [h1, h2]
  exact ⟨fun x => by rw [e]; simp, fun x y z h1 h2 => by rw [e] at *; simp at *; omega, fun x y z h1 h2 => by rw [e] at *; simp at *; omega⟩
theorem ltId (x y : S23) : ltOf (fun x y : S23 => Lib.compareInt x.f0 y.f0) x y = decide (x.f0 < y.f0) := by
  unfold ltOf Lib.compareInt
  by_cases h1 : x.f0 < y.f0
  · simp [h1]
  · by_cases h2 : y.f0 < x.f0 <;> simp [h1, h2]

set_option maxHeartbeats 1000000 in
theorem open1_calls (x y : S23) (W : World) : Calls Try.prog 92 #[.agg (encL x).toArray, .agg (encL y).toArray] W fun e w' => e = .returned (.int .i64 (Lib.compareInt x.f0 y.f0)) ∧ ∃ q os', w' = grow (W.drewN q) os' := by
  have hcon := fun W' => AnyG.cmp_Compare_int Try.cmpInt x.f0 y.f0 W'
  change ∀ W', Calls Try.prog 76 _ _ _ at hcon
  generalize Lib.compareInt x.f0 y.f0 = r at hcon ⊢
  unfold encL
  go_enter Try.func92, Try.ntmps92
  go_wp2_with (go_at_call 76; refine (hcon _).mono ?_; rintro e w' ⟨rfl, rfl⟩)
  go_ret
  exact ⟨rfl, 0, _, by rw [alloc_eq_grow, alloc_eq_grow, grow_grow]; rfl⟩

theorem sort_some (g cap base : Nat) (ok : Nat → Prop) (l : List S23) (w : World) (hR : Kd.R k23 23 w base ok (.slice (some ⟨g, 0, none⟩) l.length cap) l) (hl : l.length < 1000000) :
    Calls Try.prog 91 #[.slice (some ⟨g, 0, none⟩) l.length cap, .func (.func 92) #[] #[]] w fun e w' => e = .returned (.tuple #[]) ∧ ∃ l' : List S23, l'.Perm l ∧ l'.Pairwise (fun a b => a.f0 ≤ b.f0) ∧ Kd.R k23 23 w' base ok (.slice (some ⟨g, 0, none⟩) l'.length cap) l' ∧ w.grownBy w' (some g) := by
  have eg : ∀ args w, (callFunc 92 args).run Try.prog w = .ok (.enter 92 args) w := enters_of Try.func92 (by kernel_rfl) rfl
  have hblk : g < w.heap.size := Kd.R_lt hR g (by simp [Value.ownBlock])
  have hcon := AnyQ.slices_SortFunc Try.sortLeg 8 Try.isAgg23 Try.sizeOf23 encL encL_length encL_one (fun x y => Lib.compareInt x.f0 y.f0) swoId 92 #[] g 0 cap l.toArray w eg (fun m os dk hdk x y => open1_calls x y _) (legs_holds hR) hblk (by simp; omega)
  change Calls Try.prog 91 _ _ _ at hcon
  rw [List.size_toArray] at hcon
  refine hcon.mono ?_
  rintro e w' ⟨rfl, d', n, os, hp, hs, rfl⟩
  have hsz : d'.size = l.length := by simpa using hp.1
  refine ⟨rfl, d'.toList, ?_, ?_, legs_after hR n d' os hsz, sortWorld_grown _ _ _ _ _⟩
  · have := hp.2.2
    rw [Array.toList_extract, List.extract_eq_take_drop, List.drop_zero, Nat.sub_zero, List.take_of_length_le (by simp [hsz])] at this
    simp at this
    exact this
  · rw [List.pairwise_iff_getElem]
    intro i j hi hj hij
    have h1 := hs i j (Nat.zero_le _) hij (by simp at hj; omega)
    rw [ltId] at h1
    have hi' : i < d'.size := by simpa using hi
    have hj' : j < d'.size := by simpa using hj
    rw [getElem!_pos d' i hi', getElem!_pos d' j hj'] at h1
    simp at h1
    simpa using h1

set_option maxRecDepth 100000 in
set_option maxHeartbeats 2000000 in
theorem ins_none (cv : Value) (w : World) : Calls Try.prog 116 #[.slice none 0 0, .int .i64 0, .int .i64 0, cv] w fun e w' => e = .returned (.tuple #[]) ∧ w = w' := by
  go_enter Try.func116, Try.ntmps116
  go_wp2
  go_loopw [8] (fun i wr => wr = w ∧ i = .int .i64 1) (fun _ _ => 0)
  case atStart => exact ⟨rfl, rfl⟩
  case round =>
    obtain ⟨rfl, rfl⟩ := hrel
    go_wp2
    go_end0
    exact ⟨rfl, rfl⟩
set_option maxRecDepth 100000 in
set_option maxHeartbeats 2000000 in
theorem pdq_none (lim : Int) (cv : Value) (w : World) : Calls Try.prog 109 #[.slice none 0 0, .int .i64 0, .int .i64 0, .int .i64 lim, cv] w fun e w' => e = .returned (.tuple #[]) ∧ w = w' := by
  go_enter Try.func109, Try.ntmps109
  go_wp2
  go_loopw [1, 2] (fun i j wr => wr = w ∧ i = .int .i64 0 ∧ j = .int .i64 0) (fun _ _ _ => 0)
  case atStart => exact ⟨rfl, rfl, rfl⟩
  case round =>
    obtain ⟨rfl, rfl, rfl⟩ := hrel
    go_wp2_with (go_at_call 116; refine (ins_none _ _).mono ?_; rintro e w' ⟨rfl, rfl⟩)
    refine bodyPost_ret (results_none rfl _ _ _) rfl ?_
    exact ⟨rfl, rfl⟩
set_option maxRecDepth 100000 in
theorem sort_none (w : World) : Calls Try.prog 91 #[.slice none 0 0, .func (.func 92) #[] #[]] w fun e w' => e = .returned (.tuple #[]) ∧ w = w' := by
  have hl : Calls Try.prog 110 #[.int .u64 0] w fun e w' => e = .returned (.int .i64 (Lib.bitLen 0 : Nat)) ∧ w' = w := by
    have h := Any.bits_Len (SlLaysF0.n15.bits (P := Try.prog) (ρ := Try.sortLeg_ren) { Try.sortLeg with }) 0 w (by omega) (by omega)
    exact h
  generalize ((Lib.bitLen 0 : Nat) : Int) = lim at hl
  go_enter Try.func91, Try.ntmps91
  go_wp2_with (first | (go_at_call 110; refine hl.mono ?_; rintro e w' ⟨rfl, rfl⟩) | (go_at_call 109; refine (pdq_none _ _ _).mono ?_; rintro e w' ⟨rfl, rfl⟩))
  go_end0
  exact ⟨rfl, rfl⟩

theorem sortLegs.calls (v : Value) (base : Nat) (ok : Nat → Prop) (l : List S23) (w : World) (hR : Kd.R k23 23 w base ok v l) (hl : l.length < 1000000) :
    Calls Try.prog 91 #[v, .func (.func 92) #[] #[]] w fun e w' => e = .returned (.tuple #[]) ∧ ∃ l' : List S23, l'.Perm l ∧ l'.Pairwise (fun a b => a.f0 ≤ b.f0) ∧ Kd.R k23 23 w' base ok v l' ∧ w.grownBy w' v.ownBlock := by
  have h := hR
  obtain ⟨hok, inner, ⟨hln, ho⟩, hr⟩ := h
  rcases ho with ⟨rfl, h0⟩ | ⟨g', cap', cur, rfl, _⟩
  · obtain rfl := List.length_eq_zero_iff.1 h0
    refine (sort_none w).mono ?_
    rintro e w' ⟨rfl, rfl⟩
    exact ⟨rfl, [], List.Perm.refl _, List.Pairwise.nil, hR, World.grownBy.refl _ _⟩
  · refine (sort_some g' cap' base ok l w hR hl).mono ?_
    rintro e w' ⟨rfl, l', h1, h2, h3, h4⟩
    rw [h1.length_eq] at h3
    exact ⟨rfl, l', h1, h2, h3, h4⟩
end Go.Proofs.Ytdpadeklociinaa.PA
