/- The theory of networks, legs and ways, in plain Lean. -/
set_option linter.unusedVariables false
namespace Go.Proofs.Ytdpadeklociinaa.Net
/-- An edge takes from a time at 'src' to a time at 'dst'. -/
structure Edge where
  id : Int
  src : Int
  dst : Int
  g : Int → Option Int

abbrev Row := Int → Option Int

structure Edge.Ok (e : Edge) : Prop where
  prog : ∀ t a, e.g t = some a → t < a
  mono : ∀ t t' a', t ≤ t' → e.g t' = some a' → ∃ a, e.g t = some a ∧ a ≤ a'

def putMin (next : Row) (q a : Int) : Row := fun x =>
  if x = q then (match next x with | none => some a | some v => if a < v then some a else some v) else next x

def relax1 (last next : Row) (e : Edge) : Row :=
  match (last e.src).bind e.g with
  | none => next
  | some a => putMin next e.dst a

def step (E : List Edge) (last : Row) : Row := E.foldl (relax1 last) last

def rows (E : List Edge) (first : Row) : Nat → Row
  | 0 => first
  | k + 1 => step E (rows E first k)

def start (p t : Int) : Row := fun x => if x = p then some t else none

/-- What one edge does: never later, and no other times than the edge's. -/
theorem relax1_le {last next : Row} {e : Edge} {q v : Int} (h : next q = some v) : ∃ u, relax1 last next e q = some u ∧ u ≤ v := by
  unfold relax1
  cases (last e.src).bind e.g with
  | none => exact ⟨v, h, by omega⟩
  | some a =>
    show ∃ u, putMin next e.dst a q = some u ∧ u ≤ v
    unfold putMin
    by_cases hq : q = e.dst
    · rw [if_pos hq, h]; dsimp only
      by_cases ha : a < v
      · exact ⟨a, by rw [if_pos ha], by omega⟩
      · exact ⟨v, by rw [if_neg ha], by omega⟩
    · exact ⟨v, by rw [if_neg hq]; exact h, by omega⟩

theorem relax1_edge {last next : Row} {e : Edge} {t a : Int} (h : last e.src = some t) (hg : e.g t = some a) : ∃ u, relax1 last next e e.dst = some u ∧ u ≤ a := by
  unfold relax1
  rw [h, Option.bind_some, hg]; dsimp only
  unfold putMin
  rw [if_pos rfl]
  cases hn : next e.dst with
  | none => exact ⟨a, rfl, by omega⟩
  | some v =>
    dsimp only
    by_cases ha : a < v
    · exact ⟨a, by rw [if_pos ha], by omega⟩
    · exact ⟨v, by rw [if_neg ha], by omega⟩

theorem relax1_only {last next : Row} {e : Edge} {q v : Int} (h : relax1 last next e q = some v) : next q = some v ∨ (q = e.dst ∧ ∃ t, last e.src = some t ∧ e.g t = some v) := by
  unfold relax1 at h
  cases hb : (last e.src).bind e.g with
  | none => rw [hb] at h; exact .inl h
  | some a =>
    rw [hb] at h
    replace h : putMin next e.dst a q = some v := h
    obtain ⟨t, h1, h2⟩ := Option.bind_eq_some_iff.1 hb
    unfold putMin at h
    by_cases hq : q = e.dst
    · rw [if_pos hq] at h
      cases hn : next q with
      | none => rw [hn] at h; dsimp only at h; injection h with h; subst h; exact .inr ⟨hq, t, h1, h2⟩
      | some w =>
        rw [hn] at h; dsimp only at h
        by_cases ha : a < w
        · rw [if_pos ha] at h; injection h with h; subst h; exact .inr ⟨hq, t, h1, h2⟩
        · rw [if_neg ha] at h; injection h with h; subst h; exact .inl rfl
    · rw [if_neg hq] at h; exact .inl h

theorem fold_le (last : Row) : ∀ (E : List Edge) (next : Row) (q v : Int), next q = some v → ∃ u, E.foldl (relax1 last) next q = some u ∧ u ≤ v
  | [], _, _, v, h => ⟨v, h, by omega⟩
  | e :: E, next, q, v, h => by
    obtain ⟨u, hu, hle⟩ := relax1_le (last := last) (e := e) h
    obtain ⟨u', hu', hle'⟩ := fold_le last E _ q u hu
    exact ⟨u', hu', by omega⟩

theorem fold_edge (last : Row) : ∀ (E : List Edge) (next : Row) (e : Edge), e ∈ E → ∀ t a, last e.src = some t → e.g t = some a → ∃ u, E.foldl (relax1 last) next e.dst = some u ∧ u ≤ a
  | [], _, _, h, _, _, _, _ => by cases h
  | f :: E, next, e, h, t, a, h1, h2 => by
    rcases List.mem_cons.1 h with rfl | h
    · obtain ⟨u, hu, hle⟩ := relax1_edge (next := next) h1 h2
      obtain ⟨u', hu', hle'⟩ := fold_le last E _ _ u hu
      exact ⟨u', hu', by omega⟩
    · exact fold_edge last E _ e h t a h1 h2

theorem fold_only (last : Row) : ∀ (E : List Edge) (next : Row) (q v : Int), E.foldl (relax1 last) next q = some v → next q = some v ∨ ∃ e, e ∈ E ∧ q = e.dst ∧ ∃ t, last e.src = some t ∧ e.g t = some v
  | [], _, _, _, h => .inl h
  | e :: E, next, q, v, h => by
    rcases fold_only last E _ q v h with h | ⟨f, hf, r⟩
    · rcases relax1_only h with h | ⟨hq, r⟩
      · exact .inl h
      · exact .inr ⟨e, List.mem_cons_self, hq, r⟩
    · exact .inr ⟨f, List.mem_cons_of_mem _ hf, r⟩

theorem step_le {E : List Edge} {last : Row} {q v : Int} (h : last q = some v) : ∃ u, step E last q = some u ∧ u ≤ v := fold_le last E last q v h
theorem step_edge {E : List Edge} {last : Row} {e : Edge} (he : e ∈ E) {t a : Int} (h : last e.src = some t) (hg : e.g t = some a) : ∃ u, step E last e.dst = some u ∧ u ≤ a := fold_edge last E last e he t a h hg
theorem step_only {E : List Edge} {last : Row} {q v : Int} (h : step E last q = some v) : last q = some v ∨ ∃ e, e ∈ E ∧ q = e.dst ∧ ∃ t, last e.src = some t ∧ e.g t = some v := fold_only last E last q v h

/-! ### walks -/
inductive Walks (E : List Edge) : Int → Int → List Edge → Int → Int → Prop
  | nil (p t : Int) : Walks E p t [] p t
  | cons {t a : Int} {e : Edge} {l : List Edge} {q b : Int} : e ∈ E → e.g t = some a → Walks E e.dst a l q b → Walks E e.src t (e :: l) q b

theorem Walks.inv {E : List Edge} {p t : Int} {L : List Edge} {q b : Int} (h : Walks E p t L q b) :
    match L with
    | [] => p = q ∧ t = b
    | e :: l => e ∈ E ∧ e.src = p ∧ ∃ a, e.g t = some a ∧ Walks E e.dst a l q b := by
  cases h with
  | nil => exact ⟨rfl, rfl⟩
  | cons h1 h2 h3 => exact ⟨h1, rfl, _, h2, h3⟩

theorem Walks.snoc {E : List Edge} {p t : Int} {l : List Edge} {e : Edge} {q s a : Int} (hw : Walks E p t l q s) : q = e.src → e ∈ E → e.g s = some a → Walks E p t (l ++ [e]) e.dst a := by
  induction hw with
  | nil p t => rintro rfl he hg; exact .cons he hg (.nil _ _)
  | cons h1 h2 _ ih => intro hq he hg; exact .cons h1 h2 (ih hq he hg)

theorem Walks.append {E : List Edge} {p t : Int} {l l' : List Edge} {q s r b : Int} (hw : Walks E p t l q s) (h : Walks E q s l' r b) : Walks E p t (l ++ l') r b := by
  induction hw with
  | nil p t => exact h
  | cons h1 h2 _ ih => exact .cons h1 h2 (ih h)

theorem Walks.mono {E : List Edge} (hE : ∀ e ∈ E, e.Ok) {p t' : Int} {l : List Edge} {q b' : Int} (hw : Walks E p t' l q b') : ∀ t, t ≤ t' → ∃ b, Walks E p t l q b ∧ b ≤ b' := by
  induction hw with
  | nil p t' => intro t h; exact ⟨t, .nil _ _, h⟩
  | cons h1 h2 _ ih =>
    intro t h
    obtain ⟨a, ha, hle⟩ := (hE _ h1).mono _ _ _ h h2
    obtain ⟨b, hb, hle'⟩ := ih a hle
    exact ⟨b, .cons h1 ha hb, hle'⟩

theorem Walks.le {E : List Edge} (hE : ∀ e ∈ E, e.Ok) {p t : Int} {l : List Edge} {q b : Int} (hw : Walks E p t l q b) : t + l.length ≤ b := by
  induction hw with
  | nil => simp
  | cons h1 h2 _ ih => have := (hE _ h1).prog _ _ h2; simp only [List.length_cons]; omega

theorem Walks.mem {E : List Edge} {p t : Int} {l : List Edge} {q b : Int} (hw : Walks E p t l q b) : ∀ e ∈ l, e ∈ E := by
  induction hw with
  | nil => intro e h; cases h
  | cons h1 h2 _ ih => intro e h; rcases List.mem_cons.1 h with rfl | h; exact h1; exact ih e h

theorem Walks.sub {E F : List Edge} {p t : Int} {l : List Edge} {q b : Int} (hw : Walks E p t l q b) : (∀ e ∈ l, e ∈ F) → Walks F p t l q b := by
  induction hw with
  | nil p t => intro _; exact .nil _ _
  | cons h1 h2 _ ih => intro h; exact .cons (h _ List.mem_cons_self) h2 (ih fun e he => h e (List.mem_cons_of_mem _ he))

theorem Walks.det {E : List Edge} {p t : Int} {l : List Edge} {q b : Int} (hw : Walks E p t l q b) : ∀ q' b', Walks E p t l q' b' → q = q' ∧ b = b' := by
  induction hw with
  | nil p t => intro q' b' h; exact h.inv
  | cons h1 h2 _ ih =>
    intro q' b' h
    obtain ⟨_, _, a', h2', h3'⟩ := h.inv
    rw [h2] at h2'; injection h2' with e; subst e; exact ih _ _ h3'

/-- Where a walk comes by. -/
theorem Walks.split {E : List Edge} (hE : ∀ e ∈ E, e.Ok) {p t : Int} {l : List Edge} {q b : Int} (hw : Walks E p t l q b) (x : Int) : x ∈ p :: l.map (·.dst) →
    ∃ s l1 l2, l = l1 ++ l2 ∧ Walks E x s l2 q b ∧ t ≤ s ∧ (x :: l2.map (·.dst)) <:+ (p :: l.map (·.dst)) ∧ (l1 = [] → s = t ∧ x = p) := by
  induction hw with
  | nil p t =>
    intro h
    simp at h
    subst h
    exact ⟨t, [], [], rfl, .nil _ _, by omega, List.suffix_refl _, fun _ => ⟨rfl, rfl⟩⟩
  | @cons t a e l q b h1 h2 h3 ih =>
    intro h
    by_cases hx : x = e.src
    · subst hx
      exact ⟨t, [], e :: l, rfl, .cons h1 h2 h3, by omega, List.suffix_refl _, fun _ => ⟨rfl, rfl⟩⟩
    · have h' : x ∈ e.dst :: l.map (·.dst) := by simpa [hx] using h
      obtain ⟨s, l1, l2, rfl, hw, hs, hsuf, _⟩ := ih h'
      have := (hE _ h1).prog _ _ h2
      refine ⟨s, e :: l1, l2, rfl, hw, by omega, ?_, fun h => by cases h⟩
      have : (e.dst :: (l1 ++ l2).map (·.dst)) <:+ (e.src :: (e :: (l1 ++ l2)).map (·.dst)) := List.suffix_cons _ _
      exact List.IsSuffix.trans hsuf this

/-- A walk without a loop that is not later. -/
theorem Walks.free {E : List Edge} (hE : ∀ e ∈ E, e.Ok) : ∀ {p t : Int} {l : List Edge} {q b : Int}, Walks E p t l q b →
    ∃ l' b', Walks E p t l' q b' ∧ b' ≤ b ∧ (p :: l'.map (·.dst)).Nodup ∧ (∀ e ∈ l', e ∈ l) ∧ ((l' = l ∧ b' = b) ∨ l'.length < l.length) := by
  intro p t l q b hw
  induction hw with
  | nil p t => exact ⟨[], t, .nil _ _, by omega, by simp, fun _ h => h, .inl ⟨rfl, rfl⟩⟩
  | @cons t a e l q b h1 h2 h3 ih =>
    obtain ⟨l', b', hw', hb, hn, hmem, hl⟩ := ih
    by_cases hp : e.src ∈ e.dst :: l'.map (·.dst)
    · obtain ⟨s, l1, l2, rfl, hw2, hs, hsuf, h0⟩ := hw'.split hE _ hp
      have hpr := (hE _ h1).prog _ _ h2
      obtain ⟨b2, hw3, hb2⟩ := hw2.mono hE t (by omega)
      refine ⟨l2, b2, hw3, by omega, hn.sublist hsuf.sublist, fun f hf => List.mem_cons_of_mem _ (hmem f (List.mem_append_right _ hf)), .inr ?_⟩
      have : (l1 ++ l2).length ≤ l.length := by rcases hl with ⟨h, _⟩ | h; rw [h]; exact Nat.le_refl _; omega
      simp only [List.length_append, List.length_cons] at this ⊢
      omega
    · refine ⟨e :: l', b', .cons h1 h2 hw', hb, ?_, ?_, ?_⟩
      · simp only [List.map_cons]; exact List.nodup_cons.2 ⟨hp, hn⟩
      · intro f hf; rcases List.mem_cons.1 hf with rfl | hf; exact List.mem_cons_self; exact List.mem_cons_of_mem _ (hmem f hf)
      · rcases hl with ⟨rfl, rfl⟩ | h
        · exact .inl ⟨rfl, rfl⟩
        · exact .inr (by simpa using h)

theorem nodup_len : ∀ (l m : List Int), l.Nodup → (∀ x ∈ l, x ∈ m) → l.length ≤ m.length
  | [], _, _, _ => by simp
  | x :: l, m, hn, hs => by
    have hx := hs x List.mem_cons_self
    have h := nodup_len l (m.erase x) (List.nodup_cons.1 hn).2 (fun y hy => by
      have hne : y ≠ x := fun e => (List.nodup_cons.1 hn).1 (e ▸ hy)
      exact (List.mem_erase_of_ne hne).2 (hs y (List.mem_cons_of_mem _ hy)))
    have := List.length_erase_of_mem hx
    have hpos : 0 < m.length := List.length_pos_of_mem hx
    simp only [List.length_cons]
    omega

/-! ### rows and walks -/
theorem rows_mono {E : List Edge} {first : Row} {q v : Int} {k : Nat} (h : rows E first k q = some v) : ∀ j, ∃ u, rows E first (k + j) q = some u ∧ u ≤ v
  | 0 => ⟨v, h, by omega⟩
  | j + 1 => by
    obtain ⟨u, hu, hle⟩ := rows_mono h j
    obtain ⟨u', hu', hle'⟩ := step_le (E := E) hu
    exact ⟨u', hu', by omega⟩

theorem rows_complete' {E : List Edge} (hE : ∀ e ∈ E, e.Ok) {first : Row} {p t : Int} {l : List Edge} {q b : Int} (hw : Walks E p t l q b) : ∀ k s, rows E first k p = some s → s ≤ t → ∃ v, rows E first (k + l.length) q = some v ∧ v ≤ b := by
  induction hw with
  | nil p t => intro k s h hs; exact ⟨s, h, hs⟩
  | @cons t a e l q b h1 h2 h3 ih =>
    intro k s h hs
    obtain ⟨a', ha', hle⟩ := (hE _ h1).mono _ _ _ hs h2
    obtain ⟨u, hu, hle'⟩ := step_edge h1 h ha'
    obtain ⟨v, hv, hle''⟩ := ih (k + 1) u hu (by omega)
    exact ⟨v, by rw [show k + (e :: l).length = k + 1 + l.length by simp; omega]; exact hv, hle''⟩

theorem rows_complete {E : List Edge} (hE : ∀ e ∈ E, e.Ok) {p t : Int} {l : List Edge} {q b : Int} (hw : Walks E p t l q b) {k : Nat} (hk : l.length ≤ k) : ∃ v, rows E (start p t) k q = some v ∧ v ≤ b := by
  obtain ⟨v, hv, hle⟩ := rows_complete' (first := start p t) hE hw 0 t (by simp [rows, start]) (by omega)
  obtain ⟨u, hu, hle'⟩ := rows_mono hv (k - l.length)
  exact ⟨u, by rw [show k = 0 + l.length + (k - l.length) by omega]; exact hu, by omega⟩

theorem rows_sound {E : List Edge} {p t : Int} : ∀ {k : Nat} {q v : Int}, rows E (start p t) k q = some v → ∃ l : List Edge, l.length ≤ k ∧ Walks E p t l q v
  | 0, q, v, h => by
    simp only [rows, start] at h
    split at h
    · rename_i hq; subst hq; injection h with h; subst h; exact ⟨[], by simp, .nil _ _⟩
    · cases h
  | k + 1, q, v, h => by
    rcases step_only h with h | ⟨e, he, rfl, s, hs, hg⟩
    · obtain ⟨l, hl, hw⟩ := rows_sound h; exact ⟨l, by omega, hw⟩
    · obtain ⟨l, hl, hw⟩ := rows_sound hs
      exact ⟨l ++ [e], by simp; omega, hw.snoc rfl he hg⟩

theorem rows_stable {E : List Edge} (hE : ∀ e ∈ E, e.Ok) (plants : List Int) (p t : Int) (hp : p ∈ plants) (hd : ∀ e ∈ E, e.dst ∈ plants) (k : Nat) (hk : plants.length ≤ k + 1) :
    rows E (start p t) (k + 1) = rows E (start p t) k := by
  funext q
  cases h : rows E (start p t) k q with
  | none =>
    cases h' : rows E (start p t) (k + 1) q with
    | none => rfl
    | some v =>
      exfalso
      obtain ⟨l, _, hw⟩ := rows_sound h'
      obtain ⟨l', b', hw', _, hn, hm, _⟩ := hw.free hE
      have hlen := nodup_len _ plants hn (fun x hx => by
        rcases List.mem_cons.1 hx with rfl | hx
        · exact hp
        · obtain ⟨e, he, rfl⟩ := List.mem_map.1 hx; exact hd e (hw'.mem e he))
      simp only [List.length_cons, List.length_map] at hlen
      obtain ⟨u, hu, _⟩ := rows_complete hE hw' (k := k) (by omega)
      rw [h] at hu; cases hu
  | some v =>
    obtain ⟨u, hu, hle⟩ := rows_mono h 1
    rw [hu]
    obtain ⟨l, _, hw⟩ := rows_sound hu
    obtain ⟨l', b', hw', hb, hn, hm, _⟩ := hw.free hE
    have hlen := nodup_len _ plants hn (fun x hx => by
      rcases List.mem_cons.1 hx with rfl | hx
      · exact hp
      · obtain ⟨e, he, rfl⟩ := List.mem_map.1 hx; exact hd e (hw'.mem e he))
    simp only [List.length_cons, List.length_map] at hlen
    obtain ⟨u', hu', hle'⟩ := rows_complete hE hw' (k := k) (by omega)
    rw [h] at hu'; injection hu' with e
    congr 1; omega

theorem rows_fix {E : List Edge} {first : Row} {k : Nat} (h : rows E first (k + 1) = rows E first k) : ∀ j, rows E first (k + j) = rows E first k
  | 0 => rfl
  | j + 1 => by show step E (rows E first (k + j)) = _; rw [rows_fix h j]; exact h
structure Leg where
  id : Int
  src : Int
  dst : Int
  dep : Int
  mins : Int
  cut : Int
  grams : Int
  days : Int
deriving DecidableEq

def Leg.right (l : Leg) : Bool :=
  decide (1 ≤ l.id) && decide (l.id ≤ 999999) && decide (1 ≤ l.src) && decide (l.src ≤ 999999) && decide (1 ≤ l.dst) && decide (l.dst ≤ 999999) &&
  decide (0 ≤ l.dep) && decide (l.dep ≤ 1439) && decide (1 ≤ l.mins) && decide (l.mins ≤ 20160) && decide (0 ≤ l.cut) && decide (l.cut ≤ 10080) &&
  decide (0 ≤ l.grams) && decide (l.grams ≤ 1000000000) && decide (1 ≤ l.days) && decide (l.days ≤ 127) && decide (l.src ≠ l.dst)

def bitOf (days day : Int) : Bool := decide (days / 2 ^ (day % 7).toNat % 2 = 1)

/-- The departure of a leg on a day, if there is one. -/
def onDay (l : Leg) (day : Int) : Option Int :=
  if l.right && decide (0 ≤ day) && decide (day ≤ 730484) && bitOf l.days day && decide (l.cut ≤ 1440 * day + l.dep) && decide (1440 * day + l.dep + l.mins ≤ 1051898399)
  then some (1440 * day + l.dep) else none

theorem Leg.right_iff (l : Leg) : l.right = true ↔ (1 ≤ l.id ∧ l.id ≤ 999999 ∧ 1 ≤ l.src ∧ l.src ≤ 999999 ∧ 1 ≤ l.dst ∧ l.dst ≤ 999999 ∧ 0 ≤ l.dep ∧ l.dep ≤ 1439 ∧ 1 ≤ l.mins ∧ l.mins ≤ 20160 ∧ 0 ≤ l.cut ∧ l.cut ≤ 10080 ∧ 0 ≤ l.grams ∧ l.grams ≤ 1000000000 ∧ 1 ≤ l.days ∧ l.days ≤ 127 ∧ l.src ≠ l.dst) := by
  simp [Leg.right, and_assoc]

theorem onDay_some {l : Leg} {day d : Int} (h : onDay l day = some d) : l.right = true ∧ 0 ≤ day ∧ day ≤ 730484 ∧ bitOf l.days day = true ∧ l.cut ≤ d ∧ d + l.mins ≤ 1051898399 ∧ d = 1440 * day + l.dep := by
  unfold onDay at h
  split at h
  · rename_i hc
    simp only [Bool.and_eq_true, decide_eq_true_eq] at hc
    injection h with h
    subst h
    exact ⟨hc.1.1.1.1.1, hc.1.1.1.1.2, hc.1.1.1.2, hc.1.1.2, hc.1.2, hc.2, rfl⟩
  · cases h

theorem onDay_mk {l : Leg} {day : Int} (h1 : l.right = true) (h2 : 0 ≤ day) (h3 : day ≤ 730484) (h4 : bitOf l.days day = true) (h5 : l.cut ≤ 1440 * day + l.dep) (h6 : 1440 * day + l.dep + l.mins ≤ 1051898399) : onDay l day = some (1440 * day + l.dep) := by
  unfold onDay; rw [if_pos (by simp [h1, h2, h3, h4, h5, h6])]

attribute [irreducible] onDay

def nextFrom (l : Leg) (want : Int) : Nat → Int → Option Int
  | 0, _ => none
  | k + 1, day => match onDay l day with
    | some d => if want ≤ d then some d else nextFrom l want k (day + 1)
    | none => nextFrom l want k (day + 1)

def near (t : Int) : Int := min (max t (-1440)) (1051898399 + 1440)

def next (l : Leg) (ready : Int) : Option Int :=
  if l.right then
    let want := max (near ready) 0 + l.cut
    nextFrom l want (730485 - want / 1440).toNat (want / 1440)
  else none

def lastFrom (l : Leg) (latest : Int) : Nat → Option Int
  | 0 => none
  | k + 1 => match onDay l k with
    | some d => if d ≤ latest then some d else if 1440 * (k : Int) + l.dep < l.cut then none else lastFrom l latest k
    | none => if 1440 * (k : Int) + l.dep < l.cut then none else lastFrom l latest k

/-- The last departure that arrives by a time. -/
def last (l : Leg) (by_ : Int) : Option Int :=
  if l.right && decide (0 ≤ by_) then
    let latest := near by_ - l.mins
    lastFrom l latest (min (latest.tdiv 1440) 730484 + 1).toNat
  else none

def Dep (l : Leg) (d : Int) : Prop := ∃ day, onDay l day = some d

theorem Dep.right {l : Leg} {d : Int} (h : Dep l d) : l.right = true := by obtain ⟨day, h⟩ := h; exact (onDay_some h).1
theorem Dep.bounds {l : Leg} {d : Int} (h : Dep l d) : l.cut ≤ d ∧ d + l.mins ≤ 1051898399 ∧ 0 ≤ d := by
  obtain ⟨day, h⟩ := h
  have := onDay_some h
  have hr := (l.right_iff).1 this.1
  omega

theorem nextFrom_some {l : Leg} {want : Int} (k : Nat) : ∀ {day d : Int}, nextFrom l want k day = some d → Dep l d ∧ want ≤ d ∧ ∀ day' : Int, day ≤ day' → ∀ d', onDay l day' = some d' → want ≤ d' → d ≤ d' := by
  induction k with
  | zero => intro day d h; simp [nextFrom] at h
  | succ k ih =>
    intro day d h
    rw [nextFrom] at h
    have hrec : nextFrom l want k (day + 1) = some d → (∀ d', onDay l day = some d' → ¬ want ≤ d') → Dep l d ∧ want ≤ d ∧ ∀ day' : Int, day ≤ day' → ∀ d', onDay l day' = some d' → want ≤ d' → d ≤ d' := by
      intro h hn
      obtain ⟨h1, h2, h3⟩ := ih h
      refine ⟨h1, h2, fun day' hd d' hd' hw => ?_⟩
      by_cases e : day = day'
      · subst e; exact absurd hw (hn d' hd')
      · exact h3 day' (by omega) d' hd' hw
    cases ho : onDay l day with
    | none => rw [ho] at h; exact hrec h (fun d' e => by rw [ho] at e; cases e)
    | some x =>
      rw [ho] at h
      dsimp only at h
      by_cases hx : want ≤ x
      · rw [if_pos hx] at h
        injection h with h
        subst h
        refine ⟨⟨day, ho⟩, hx, fun day' hd d' hd' _ => ?_⟩
        have h1 := onDay_some ho
        have h2 := onDay_some hd'
        omega
      · rw [if_neg hx] at h
        exact hrec h (fun d' e => by rw [ho] at e; injection e with e; subst e; exact hx)

theorem nextFrom_none {l : Leg} {want : Int} (k : Nat) : ∀ {day : Int}, nextFrom l want k day = none → ∀ day' : Int, day ≤ day' → day' < day + k → ∀ d', onDay l day' = some d' → ¬ want ≤ d' := by
  induction k with
  | zero => intros; omega
  | succ k ih =>
    intro day h day' h1 h2 d' hd'
    rw [nextFrom] at h
    have key : nextFrom l want k (day + 1) = none ∧ (∀ d', onDay l day = some d' → ¬ want ≤ d') := by
      cases ho : onDay l day with
      | none => rw [ho] at h; exact ⟨h, fun d' e => by cases e⟩
      | some x =>
        rw [ho] at h
        dsimp only at h
        by_cases hx : want ≤ x
        · rw [if_pos hx] at h; cases h
        · rw [if_neg hx] at h; exact ⟨h, fun d' e => by injection e with e; subst e; exact hx⟩
    by_cases e : day = day'
    · subst e; exact key.2 d' hd'
    · exact ih key.1 day' (by omega) (by omega) d' hd'

/-- The first departure that takes what is there at a time. -/
theorem next_some {l : Leg} {r d : Int} (h : next l r = some d) : Dep l d ∧ r + l.cut ≤ d ∧ ∀ d', Dep l d' → r + l.cut ≤ d' → d ≤ d' := by
  unfold next at h
  split at h
  · rename_i hr
    have hr' := (l.right_iff).1 hr
    dsimp only at h
    obtain ⟨h1, h2, h3⟩ := nextFrom_some _ h
    have hb := h1.bounds
    refine ⟨h1, by unfold near at h2; omega, fun d' hd' hle => ?_⟩
    have hb' := hd'.bounds
    obtain ⟨day', hd'⟩ := hd'
    have ho := onDay_some hd'
    have hw : max (near r) 0 + l.cut ≤ d' := by unfold near; omega
    refine h3 day' ?_ d' hd' hw
    omega
  · cases h

theorem next_none {l : Leg} {r : Int} (h : next l r = none) {d' : Int} (hd : Dep l d') : d' < r + l.cut := by
  unfold next at h
  have hr := hd.right
  rw [if_pos hr] at h
  dsimp only at h
  have hr' := (l.right_iff).1 hr
  have hb' := hd.bounds
  obtain ⟨day', hd'⟩ := hd
  have ho := onDay_some hd'
  by_cases hw : max (near r) 0 + l.cut ≤ d'
  · exact absurd hw (nextFrom_none _ h day' (by omega) (by unfold near at *; omega) d' hd')
  · unfold near at hw; omega

theorem lastFrom_some {l : Leg} {latest : Int} (k : Nat) : ∀ {d : Int}, lastFrom l latest k = some d → Dep l d ∧ d ≤ latest ∧ ∀ day' : Int, day' < k → ∀ d', onDay l day' = some d' → d' ≤ latest → d' ≤ d := by
  induction k with
  | zero => intro d h; simp [lastFrom] at h
  | succ k ih =>
    intro d h
    rw [lastFrom] at h
    have hrec : lastFrom l latest k = some d → (∀ d', onDay l k = some d' → ¬ d' ≤ latest) → Dep l d ∧ d ≤ latest ∧ ∀ day' : Int, day' < ((k + 1 : Nat) : Int) → ∀ d', onDay l day' = some d' → d' ≤ latest → d' ≤ d := by
      intro h hn
      obtain ⟨h1, h2, h3⟩ := ih h
      refine ⟨h1, h2, fun day' hd d' hd' hw => ?_⟩
      by_cases e : day' = k
      · subst e; exact absurd hw (hn d' hd')
      · exact h3 day' (by omega) d' hd' hw
    cases ho : onDay l k with
    | none =>
      rw [ho] at h; dsimp only at h
      split at h
      · cases h
      · exact hrec h (fun d' e => by rw [ho] at e; cases e)
    | some x =>
      rw [ho] at h
      dsimp only at h
      by_cases hx : x ≤ latest
      · rw [if_pos hx] at h
        injection h with h
        subst h
        refine ⟨⟨k, ho⟩, hx, fun day' hd d' hd' _ => ?_⟩
        have h1 := onDay_some ho
        have h2 := onDay_some hd'
        omega
      · rw [if_neg hx] at h
        split at h
        · cases h
        · exact hrec h (fun d' e => by rw [ho] at e; injection e with e; subst e; exact hx)

theorem lastFrom_none {l : Leg} {latest : Int} (k : Nat) : lastFrom l latest k = none → ∀ day' : Int, day' < k → ∀ d', onDay l day' = some d' → ¬ d' ≤ latest := by
  induction k with
  | zero => intro _ day' h2 d' hd'; have := onDay_some hd'; omega
  | succ k ih =>
    intro h day' h2 d' hd'
    rw [lastFrom] at h
    have ho' := onDay_some hd'
    have key : ((1440 * (k : Int) + l.dep < l.cut) ∨ lastFrom l latest k = none) ∧ (∀ d', onDay l k = some d' → ¬ d' ≤ latest) := by
      cases ho : onDay l k with
      | none =>
        rw [ho] at h; dsimp only at h
        refine ⟨?_, fun d' e => by cases e⟩
        split at h
        · exact .inl ‹_›
        · exact .inr h
      | some x =>
        rw [ho] at h
        dsimp only at h
        by_cases hx : x ≤ latest
        · rw [if_pos hx] at h; cases h
        · rw [if_neg hx] at h
          refine ⟨?_, fun d' e => by injection e with e; subst e; exact hx⟩
          split at h
          · exact .inl ‹_›
          · exact .inr h
    by_cases e : day' = k
    · subst e; exact key.2 d' hd'
    · rcases key.1 with hlt | hn
      · omega
      · exact ih hn day' (by omega) d' hd'

theorem tdiv_1440 (a : Int) : (0 ≤ a → a.tdiv 1440 = a / 1440) ∧ (a < 0 → a.tdiv 1440 ≤ 0 ∧ -1 - (-a - 1) / 1440 ≤ a.tdiv 1440) := by
  constructor
  · intro h; exact Int.tdiv_eq_ediv_of_nonneg h
  · intro h
    have e : a = -(-a) := by omega
    rw [e, Int.neg_tdiv, Int.tdiv_eq_ediv_of_nonneg (by omega)]
    omega

theorem last_some {l : Leg} {b d : Int} (h : last l b = some d) : Dep l d ∧ d + l.mins ≤ b ∧ ∀ d', Dep l d' → d' + l.mins ≤ b → d' ≤ d := by
  unfold last at h
  split at h
  · rename_i hr
    simp only [Bool.and_eq_true, decide_eq_true_eq] at hr
    have hr' := (l.right_iff).1 hr.1
    dsimp only at h
    obtain ⟨h1, h2, h3⟩ := lastFrom_some _ h
    have hb := h1.bounds
    refine ⟨h1, by unfold near at h2; omega, fun d' hd' hle => ?_⟩
    have hb' := hd'.bounds
    obtain ⟨day', hd'⟩ := hd'
    have ho := onDay_some hd'
    have hw : d' ≤ near b - l.mins := by unfold near; omega
    refine h3 day' ?_ d' hd' hw
    have ht := (tdiv_1440 (near b - l.mins)).1 (by omega)
    rw [ht]
    omega
  · cases h

theorem last_none {l : Leg} {b d' : Int} (h : last l b = none) (hd : Dep l d') : b < d' + l.mins := by
  unfold last at h
  have hr := hd.right
  have hr' := (l.right_iff).1 hr
  have hb' := hd.bounds
  by_cases h0 : 0 ≤ b
  · rw [if_pos (by simp [hr, h0])] at h
    dsimp only at h
    obtain ⟨day', hd'⟩ := hd
    have ho := onDay_some hd'
    by_cases hw : d' ≤ near b - l.mins
    · refine absurd hw (lastFrom_none _ h day' ?_ d' hd')
      have ht := (tdiv_1440 (near b - l.mins)).1 (by omega)
      rw [ht]
      omega
    · unfold near at hw; omega
  · omega

theorem next_iff {l : Leg} {r d : Int} : next l r = some d ↔ (Dep l d ∧ r + l.cut ≤ d ∧ ∀ d', Dep l d' → r + l.cut ≤ d' → d ≤ d') := by
  refine ⟨next_some, fun ⟨h1, h2, h3⟩ => ?_⟩
  cases hn : next l r with
  | none => have := next_none hn h1; omega
  | some x =>
    obtain ⟨g1, g2, g3⟩ := next_some hn
    have := g3 d h1 h2
    have := h3 x g1 g2
    congr 1; omega

theorem last_iff {l : Leg} {b d : Int} : last l b = some d ↔ (Dep l d ∧ d + l.mins ≤ b ∧ ∀ d', Dep l d' → d' + l.mins ≤ b → d' ≤ d) := by
  refine ⟨last_some, fun ⟨h1, h2, h3⟩ => ?_⟩
  cases hn : last l b with
  | none => have := last_none hn h1; omega
  | some x =>
    obtain ⟨g1, g2, g3⟩ := last_some hn
    have := g3 d h1 h2
    have := h3 x g1 g2
    congr 1; omega

/-- A departure that takes what is there: there is a next one, and it isn't later. -/
theorem next_of {l : Leg} {r d : Int} (h1 : Dep l d) (h2 : r + l.cut ≤ d) : ∃ x, next l r = some x ∧ x ≤ d := by
  cases hn : next l r with
  | none => have := next_none hn h1; omega
  | some x => exact ⟨x, rfl, (next_some hn).2.2 d h1 h2⟩

theorem last_of {l : Leg} {b d : Int} (h1 : Dep l d) (h2 : d + l.mins ≤ b) : ∃ x, last l b = some x ∧ d ≤ x := by
  cases hn : last l b with
  | none => have := last_none hn h1; omega
  | some x => exact ⟨x, rfl, (last_some hn).2.2 d h1 h2⟩

/-! ### the edges -/
/-- A leg, forwards: from a ready time to an arrival, not behind L. -/
def fedge (L : Int) (l : Leg) : Edge := ⟨l.id, l.src, l.dst, fun t => match next l t with | some d => if d + l.mins ≤ L then some (d + l.mins) else none | none => none⟩
/-- A leg, backwards: from an arrival (negative) to the latest ready time (negative). -/
def bedge (L : Int) (l : Leg) : Edge := ⟨l.id, l.dst, l.src, fun t => match last l (-t) with | some d => if -(d - l.cut) ≤ L then some (-(d - l.cut)) else none | none => none⟩

theorem fedge_g {L : Int} {l : Leg} {t a : Int} : (fedge L l).g t = some a ↔ ∃ d, next l t = some d ∧ d + l.mins ≤ L ∧ a = d + l.mins := by
  show (match next l t with | some d => if d + l.mins ≤ L then some (d + l.mins) else none | none => none) = some a ↔ _
  cases h : next l t with
  | none => simp
  | some d =>
    dsimp only
    by_cases hL : d + l.mins ≤ L
    · rw [if_pos hL]; simp [hL, eq_comm]
    · rw [if_neg hL]; simp [hL]

theorem bedge_g {L : Int} {l : Leg} {t a : Int} : (bedge L l).g t = some a ↔ ∃ d, last l (-t) = some d ∧ -(d - l.cut) ≤ L ∧ a = -(d - l.cut) := by
  show (match last l (-t) with | some d => if -(d - l.cut) ≤ L then some (-(d - l.cut)) else none | none => none) = some a ↔ _
  cases h : last l (-t) with
  | none => simp
  | some d =>
    dsimp only
    by_cases hL : -(d - l.cut) ≤ L
    · rw [if_pos hL]; simp [hL, eq_comm]
    · rw [if_neg hL]; simp only [reduceCtorEq, false_iff, not_exists]; intro x hx; obtain ⟨hx, h2, _⟩ := hx; injection hx with hx; subst hx; exact hL h2

theorem fedge_ok (L : Int) (l : Leg) : (fedge L l).Ok where
  prog t a h := by
    obtain ⟨d, hn, _, rfl⟩ := fedge_g.1 h
    obtain ⟨h1, h2, _⟩ := next_some hn
    have := (l.right_iff).1 h1.right
    omega
  mono t t' a' hle h := by
    obtain ⟨d, hn, hL, rfl⟩ := fedge_g.1 h
    obtain ⟨h1, h2, _⟩ := next_some hn
    obtain ⟨x, hx, hxd⟩ := next_of (r := t) h1 (by omega)
    exact ⟨x + l.mins, fedge_g.2 ⟨x, hx, by omega, rfl⟩, by omega⟩

theorem bedge_ok (L : Int) (l : Leg) : (bedge L l).Ok where
  prog t a h := by
    obtain ⟨d, hn, _, rfl⟩ := bedge_g.1 h
    obtain ⟨h1, h2, _⟩ := last_some hn
    have := (l.right_iff).1 h1.right
    omega
  mono t t' a' hle h := by
    obtain ⟨d, hn, hL, rfl⟩ := bedge_g.1 h
    obtain ⟨h1, h2, _⟩ := last_some hn
    obtain ⟨x, hx, hxd⟩ := last_of (b := -t) h1 (by omega)
    exact ⟨-(x - l.cut), bedge_g.2 ⟨x, hx, by omega, rfl⟩, by omega⟩

attribute [irreducible] next last
/-- A way by the next departures. -/
inductive Gway (S : List Leg) : Int → Int → List Leg → Int → Int → Prop
  | nil (p t : Int) : Gway S p t [] p t
  | cons {t d : Int} {l : Leg} {ls : List Leg} {q b : Int} : l ∈ S → next l t = some d → Gway S l.dst (d + l.mins) ls q b → Gway S l.src t (l :: ls) q b

theorem Gway.inv {S : List Leg} {p t : Int} {L : List Leg} {q b : Int} (h : Gway S p t L q b) :
    match L with
    | [] => p = q ∧ t = b
    | l :: ls => l ∈ S ∧ l.src = p ∧ ∃ d, next l t = some d ∧ Gway S l.dst (d + l.mins) ls q b := by
  cases h with
  | nil => exact ⟨rfl, rfl⟩
  | cons h1 h2 h3 => exact ⟨h1, rfl, _, h2, h3⟩

theorem next_lt {l : Leg} {t d : Int} (h : next l t = some d) : t < d + l.mins ∧ 0 ≤ d ∧ t + l.cut ≤ d ∧ d + l.mins ≤ 1051898399 ∧ 0 ≤ l.cut ∧ 1 ≤ l.mins := by
  obtain ⟨h1, h2, _⟩ := next_some h
  have := (l.right_iff).1 h1.right
  have := h1.bounds
  omega

theorem Gway.le {S : List Leg} {p t : Int} {ls : List Leg} {q b : Int} (h : Gway S p t ls q b) : t + ls.length ≤ b := by
  induction h with
  | nil => simp
  | cons _ h2 _ ih => have := next_lt h2; simp only [List.length_cons]; omega

theorem Gway.mem {S : List Leg} {p t : Int} {ls : List Leg} {q b : Int} (h : Gway S p t ls q b) : ∀ l ∈ ls, l ∈ S := by
  induction h with
  | nil => intro l h; cases h
  | cons h1 _ _ ih => intro x h; rcases List.mem_cons.1 h with rfl | h; exact h1; exact ih x h

theorem Gway.sub {S T : List Leg} {p t : Int} {ls : List Leg} {q b : Int} (h : Gway S p t ls q b) : (∀ l ∈ ls, l ∈ T) → Gway T p t ls q b := by
  induction h with
  | nil p t => intro _; exact .nil _ _
  | cons h1 h2 _ ih => intro h; exact .cons (h _ List.mem_cons_self) h2 (ih fun e he => h e (List.mem_cons_of_mem _ he))

theorem Gway.det {S : List Leg} {p t : Int} {ls : List Leg} {q b : Int} (h : Gway S p t ls q b) : ∀ q' b', Gway S p t ls q' b' → q = q' ∧ b = b' := by
  induction h with
  | nil p t => intro q' b' h; exact h.inv
  | cons h1 h2 _ ih =>
    intro q' b' h
    obtain ⟨_, _, d, h2', h3'⟩ := h.inv
    rw [h2] at h2'; injection h2' with e; subst e; exact ih _ _ h3'

theorem Gway.append {S : List Leg} {p t : Int} {l : List Leg} {q s : Int} (hw : Gway S p t l q s) {l' : List Leg} {r b : Int} (h : Gway S q s l' r b) : Gway S p t (l ++ l') r b := by
  induction hw with
  | nil p t => exact h
  | cons h1 h2 _ ih => exact .cons h1 h2 (ih h)

/-- Any way (whatever departures): what stands of it for the law. -/
inductive Rway (S : List Leg) : Int → Int → List (Leg × Int) → Int → Int → Prop
  | nil (p t : Int) : Rway S p t [] p t
  | cons {t d : Int} {l : Leg} {ls : List (Leg × Int)} {q b : Int} : l ∈ S → Dep l d → t + l.cut ≤ d → Rway S l.dst (d + l.mins) ls q b → Rway S l.src t ((l, d) :: ls) q b

theorem Gway.toR {S : List Leg} {p t : Int} {ls : List Leg} {q b : Int} (h : Gway S p t ls q b) : ∃ rs, Rway S p t rs q b ∧ rs.map (·.1) = ls := by
  induction h with
  | nil p t => exact ⟨[], .nil _ _, rfl⟩
  | @cons t d l ls q b h1 h2 _ ih =>
    obtain ⟨rs, hr, rfl⟩ := ih
    obtain ⟨h3, h4, _⟩ := next_some h2
    exact ⟨(l, d) :: rs, .cons h1 h3 h4 hr, rfl⟩

theorem Rway.toG {S : List Leg} {p t' : Int} {rs : List (Leg × Int)} {q b' : Int} (h : Rway S p t' rs q b') : ∀ t, t ≤ t' → ∃ b, Gway S p t (rs.map (·.1)) q b ∧ b ≤ b' := by
  induction h with
  | nil p t' => intro t h; exact ⟨t, .nil _ _, h⟩
  | @cons t' d l ls q b h1 h2 h3 _ ih =>
    intro t h
    obtain ⟨x, hx, hle⟩ := next_of (r := t) h2 (by omega)
    obtain ⟨b, hb, hle'⟩ := ih (x + l.mins) (by omega)
    exact ⟨b, .cons h1 hx hb, hle'⟩

theorem Gway.mono {S : List Leg} {p t' : Int} {ls : List Leg} {q b' : Int} (h : Gway S p t' ls q b') (t : Int) (ht : t ≤ t') : ∃ b, Gway S p t ls q b ∧ b ≤ b' := by
  obtain ⟨rs, hr, rfl⟩ := h.toR
  exact hr.toG t ht

/-! ### walks over the edges with a limit -/
theorem Gway.walks {S : List Leg} {L : Int} {p t : Int} {ls : List Leg} {q b : Int} (h : Gway S p t ls q b) : b ≤ L → Walks (S.map (fedge L)) p t (ls.map (fedge L)) q b := by
  induction h with
  | nil p t => intro _; exact .nil _ _
  | @cons t d l ls q b h1 h2 h3 ih =>
    intro hL
    have := h3.le
    exact Walks.cons (e := fedge L l) (List.mem_map.2 ⟨l, h1, rfl⟩) (fedge_g.2 ⟨d, h2, by omega, rfl⟩) (ih hL)

theorem Gway.of_walks {S : List Leg} {L : Int} {p t : Int} {es : List Edge} {q b : Int} (h : Walks (S.map (fedge L)) p t es q b) : ∃ ls, es = ls.map (fedge L) ∧ Gway S p t ls q b ∧ (es = [] ∨ b ≤ L) := by
  induction h with
  | nil p t => exact ⟨[], rfl, .nil _ _, .inl rfl⟩
  | @cons t a e es q b h1 h2 h3 ih =>
    obtain ⟨ls, rfl, hg, hl⟩ := ih
    obtain ⟨l, hl1, rfl⟩ := List.mem_map.1 h1
    obtain ⟨d, hd, hL, rfl⟩ := fedge_g.1 h2
    refine ⟨l :: ls, rfl, .cons hl1 hd hg, .inr ?_⟩
    rcases hl with hl | hl
    · have : ls = [] := by simpa using hl
      subst this
      have := (hg.inv).2
      omega
    · exact hl

theorem fedges_ok (S : List Leg) (L : Int) : ∀ e ∈ S.map (fedge L), e.Ok := fun e h => by obtain ⟨l, _, rfl⟩ := List.mem_map.1 h; exact fedge_ok L l
theorem bedges_ok (S : List Leg) (L : Int) : ∀ e ∈ S.map (bedge L), e.Ok := fun e h => by obtain ⟨l, _, rfl⟩ := List.mem_map.1 h; exact bedge_ok L l

/-- The earliest arrivals with at most k stops. -/
def fwd (S : List Leg) (p t : Int) (k : Nat) : Row := rows (S.map (fedge (t + 86400))) (start p t) k
/-- The latest ready times (negative) with at most k stops. -/
def bwd (S : List Leg) (q s : Int) (k : Nat) : Row := rows (S.map (bedge (-s + 86400))) (start q (-s)) k

theorem fwd_sound {S : List Leg} {p t : Int} {k : Nat} {q v : Int} (h : fwd S p t k q = some v) : ∃ ls : List Leg, ls.length ≤ k ∧ Gway S p t ls q v ∧ v ≤ t + 86400 := by
  obtain ⟨es, hk, hw⟩ := rows_sound h
  obtain ⟨ls, rfl, hg, hL⟩ := Gway.of_walks hw
  refine ⟨ls, by simpa using hk, hg, ?_⟩
  rcases hL with hL | hL
  · have : ls = [] := by simpa using hL
    subst this
    have := (hg.inv).2
    omega
  · exact hL

theorem fwd_complete {S : List Leg} {p t : Int} {ls : List Leg} {q b : Int} (h : Gway S p t ls q b) (hb : b ≤ t + 86400) {k : Nat} (hk : ls.length ≤ k) : ∃ v, fwd S p t k q = some v ∧ v ≤ b :=
  rows_complete (fedges_ok S _) (h.walks hb) (by simpa using hk)

theorem fwd_stable {S : List Leg} {plants : List Int} (p t : Int) (hp : p ∈ plants) (hd : ∀ l ∈ S, l.dst ∈ plants) {k : Nat} (hk : plants.length ≤ k + 1) : fwd S p t (k + 1) = fwd S p t k :=
  rows_stable (fedges_ok S _) plants p t hp (fun e he => by obtain ⟨l, hl, rfl⟩ := List.mem_map.1 he; exact hd l hl) k hk

theorem bwd_stable {S : List Leg} {plants : List Int} (p t : Int) (hp : p ∈ plants) (hd : ∀ l ∈ S, l.src ∈ plants) {k : Nat} (hk : plants.length ≤ k + 1) : bwd S p t (k + 1) = bwd S p t k :=
  rows_stable (bedges_ok S _) plants p (-t) hp (fun e he => by obtain ⟨l, hl, rfl⟩ := List.mem_map.1 he; exact hd l hl) k hk

theorem fwd_fix {S : List Leg} {p t : Int} {k : Nat} (h : fwd S p t (k + 1) = fwd S p t k) (j : Nat) (hj : k ≤ j) : fwd S p t j = fwd S p t k := by
  have := rows_fix h (j - k)
  rwa [show k + (j - k) = j by omega] at this

theorem bwd_fix {S : List Leg} {p t : Int} {k : Nat} (h : bwd S p t (k + 1) = bwd S p t k) (j : Nat) (hj : k ≤ j) : bwd S p t j = bwd S p t k := by
  have := rows_fix h (j - k)
  rwa [show k + (j - k) = j by omega] at this

theorem bwd_sound {S : List Leg} {to dl : Int} (k : Nat) : ∀ {p v : Int}, bwd S to dl k p = some v → (dl - 86400 ≤ -v ∧ -v ≤ dl) ∧ ∀ t, t ≤ -v → ∃ (ls : List Leg) (b : Int), ls.length ≤ k ∧ Gway S p t ls to b ∧ b ≤ dl := by
  induction k with
  | zero =>
    intro p v h
    simp only [bwd, rows, start] at h
    split at h
    · rename_i hq
      subst hq
      injection h with h
      subst h
      exact ⟨by omega, fun t ht => ⟨[], t, by simp, .nil _ _, by omega⟩⟩
    · cases h
  | succ k ih =>
    intro p v h
    rcases step_only h with h | ⟨e, he, rfl, s, hs, hg⟩
    · obtain ⟨h1, h2⟩ := ih h
      refine ⟨h1, fun t ht => ?_⟩
      obtain ⟨ls, b, hl, hw, hb⟩ := h2 t ht
      exact ⟨ls, b, by omega, hw, hb⟩
    · obtain ⟨l, hl, rfl⟩ := List.mem_map.1 he
      obtain ⟨d, hd, hL, rfl⟩ := bedge_g.1 hg
      obtain ⟨h1, h2⟩ := ih hs
      obtain ⟨g1, g2, _⟩ := last_some hd
      have hr := (l.right_iff).1 g1.right
      refine ⟨by omega, fun t ht => ?_⟩
      obtain ⟨x, hx, hle⟩ := next_of (r := t) g1 (by omega)
      obtain ⟨ls, b, hl2, hw, hb⟩ := h2 (x + l.mins) (by omega)
      exact ⟨l :: ls, b, by simp; omega, .cons hl hx hw, hb⟩

theorem bwd_complete {S : List Leg} {dl p t : Int} {ls : List Leg} {to b : Int} (h : Gway S p t ls to b) : b ≤ dl → dl - 86400 ≤ t → ∀ k, ls.length ≤ k → ∃ v, bwd S to dl k p = some v ∧ t ≤ -v := by
  induction h with
  | nil p t =>
    intro hb ht k _
    obtain ⟨u, hu, hle⟩ := rows_mono (E := S.map (bedge (-dl + 86400))) (first := start p (-dl)) (q := p) (v := -dl) (k := 0) (by simp [rows, start]) k
    exact ⟨u, by unfold bwd; rwa [Nat.zero_add] at hu, by omega⟩
  | @cons t d l ls q b h1 h2 h3 ih =>
    intro hb ht k hk
    simp only [List.length_cons] at hk
    obtain ⟨k, rfl⟩ : ∃ j, k = j + 1 := ⟨k - 1, by omega⟩
    have hn := next_lt h2
    obtain ⟨v, hv, hle⟩ := ih hb (by omega) k (by omega)
    obtain ⟨g1, g2, _⟩ := next_some h2
    obtain ⟨x, hx, hxd⟩ := last_of (b := -v) g1 (by omega)
    obtain ⟨u, hu, hul⟩ := step_edge (E := S.map (bedge (-dl + 86400))) (e := bedge (-dl + 86400) l) (List.mem_map.2 ⟨l, h1, rfl⟩) hv (bedge_g.2 ⟨x, hx, by omega, rfl⟩)
    exact ⟨u, hu, by omega⟩

/-! ### the way -/
/-- The first leg (in the order of the list) from a plant at a time that comes in time. -/
def pick (S : List Leg) (p t : Int) (late : Row) : Option (Leg × Int) :=
  match S with
  | [] => none
  | l :: S => if l.src = p then
      match next l t with
      | some d => match late l.dst with
        | some v => if d + l.mins ≤ -v then some (l, d) else pick S p t late
        | none => pick S p t late
      | none => pick S p t late
    else pick S p t late

theorem pick_some {p t : Int} {late : Row} : ∀ {S : List Leg} {l : Leg} {d : Int}, pick S p t late = some (l, d) → l ∈ S ∧ l.src = p ∧ next l t = some d ∧ (∃ v, late l.dst = some v ∧ d + l.mins ≤ -v)
  | [], _, _, h => by cases h
  | m :: S, l, d, h => by
    unfold pick at h
    have rest : pick S p t late = some (l, d) → l ∈ m :: S ∧ l.src = p ∧ next l t = some d ∧ (∃ v, late l.dst = some v ∧ d + l.mins ≤ -v) := fun h => by
      obtain ⟨h1, h2⟩ := pick_some h; exact ⟨List.mem_cons_of_mem _ h1, h2⟩
    by_cases hs : m.src = p
    · rw [if_pos hs] at h
      cases hn : next m t with
      | none => rw [hn] at h; exact rest h
      | some x =>
        rw [hn] at h; dsimp only at h
        cases hl : late m.dst with
        | none => rw [hl] at h; exact rest h
        | some v =>
          rw [hl] at h; dsimp only at h
          by_cases hc : x + m.mins ≤ -v
          · rw [if_pos hc] at h
            injection h with h; injection h with h1 h2; subst h1; subst h2
            exact ⟨List.mem_cons_self, hs, hn, v, hl, hc⟩
          · rw [if_neg hc] at h; exact rest h
    · rw [if_neg hs] at h; exact rest h

/-- Whatever leg would do: one is found, and it doesn't stand behind that one. -/
theorem pick_of {p t : Int} {late : Row} : ∀ {S : List Leg} {l : Leg} {d v : Int}, l ∈ S → l.src = p → next l t = some d → late l.dst = some v → d + l.mins ≤ -v → S.Pairwise (fun a b => a.id ≤ b.id) → ∃ m x, pick S p t late = some (m, x) ∧ (m.id ≤ l.id)
  | [], _, _, _, h, _, _, _, _, _ => by cases h
  | m :: S, l, d, v, h, hs, hn, hl, hc, hp => by
    unfold pick
    have hp' := List.pairwise_cons.1 hp
    have rest : l ∈ S → ∃ m x, pick S p t late = some (m, x) ∧ (m.id ≤ l.id) := fun h => pick_of h hs hn hl hc hp'.2
    rcases List.mem_cons.1 h with rfl | h
    · rw [if_pos hs, hn]; dsimp only; rw [hl]; dsimp only; rw [if_pos hc]
      exact ⟨l, d, rfl, Int.le_refl _⟩
    · by_cases hs' : m.src = p
      · rw [if_pos hs']
        cases next m t with
        | none => exact rest h
        | some x =>
          dsimp only
          cases late m.dst with
          | none => exact rest h
          | some u =>
            dsimp only
            by_cases hc' : x + m.mins ≤ -u
            · rw [if_pos hc']; exact ⟨m, x, rfl, hp'.1 l h⟩
            · rw [if_neg hc']; exact rest h
      · rw [if_neg hs']; exact rest h

/-- The legs and departures of a way, stop by stop. -/
def steps (S : List Leg) (late : Nat → Row) : Nat → Int → Int → List (Leg × Int)
  | 0, _, _ => []
  | m + 1, p, t => match pick S p t (late m) with
    | some (l, d) => (l, d) :: steps S late m l.dst (d + l.mins)
    | none => []

def idsLt : List Leg → List Leg → Bool
  | [], [] => false
  | [], _ :: _ => true
  | _ :: _, [] => false
  | a :: l, b :: m => if a.id = b.id then idsLt l m else decide (a.id < b.id)

structure Good (S : List Leg) : Prop where
  sorted : S.Pairwise (fun a b => a.id ≤ b.id)
  ids : ∀ a ∈ S, ∀ b ∈ S, a.id = b.id → a = b

theorem steps_way {S : List Leg} (hS : Good S) {to dl : Int} (m : Nat) : ∀ {p t : Int} {ls : List Leg} {b : Int}, Gway S p t ls to b → b ≤ dl → dl - 86400 ≤ t → ls.length ≤ m → (∀ ls' b', Gway S p t ls' to b' → b' ≤ dl → m ≤ ls'.length) →
    ∃ b', Gway S p t ((steps S (bwd S to dl) m p t).map (·.1)) to b' ∧ b' ≤ dl ∧ (steps S (bwd S to dl) m p t).length = m ∧ Rway S p t (steps S (bwd S to dl) m p t) to b' := by
  induction m with
  | zero =>
    intro p t ls b h hb ht hl hmin
    have : ls = [] := List.eq_nil_of_length_eq_zero (by omega)
    subst this
    obtain ⟨rfl, rfl⟩ := h.inv
    exact ⟨t, .nil _ _, hb, rfl, .nil _ _⟩
  | succ m ih =>
    intro p t ls b h hb ht hl hmin
    have hlen := hmin ls b h hb
    obtain ⟨l0, ls0, rfl⟩ : ∃ l0 ls0, ls = l0 :: ls0 := by
      cases ls with
      | nil => simp at hlen
      | cons a l => exact ⟨a, l, rfl⟩
    obtain ⟨h1, rfl, d0, h2, h3⟩ := h.inv
    have hn0 := next_lt h2
    obtain ⟨v, hv, hvl⟩ := bwd_complete h3 hb (by omega) m (by simp at hl; omega)
    obtain ⟨l, d, hp, _⟩ := pick_of (late := bwd S to dl m) h1 rfl h2 hv (by omega) hS.sorted
    obtain ⟨g1, g2, g3, u, hu, hul⟩ := pick_some hp
    have hn := next_lt g3
    obtain ⟨_, hfe⟩ := bwd_sound m hu
    obtain ⟨ls1, b1, hl1, hw1, hb1⟩ := hfe (d + l.mins) hul
    obtain ⟨b2, hw2, hb2, hle, hr2⟩ := ih hw1 hb1 (by omega) hl1 (fun ls' b' hw' hb' => by
      have := hmin (l :: ls') b' (g2 ▸ .cons g1 g3 hw') hb'
      simp at this; omega)
    have e : steps S (bwd S to dl) (m + 1) l0.src t = (l, d) :: steps S (bwd S to dl) m l.dst (d + l.mins) := by
      show (match pick S l0.src t (bwd S to dl m) with | some (l, d) => (l, d) :: steps S (bwd S to dl) m l.dst (d + l.mins) | none => []) = _
      rw [hp]
    rw [e]
    have hd := next_some g3
    refine ⟨b2, ?_, hb2, by simp [hle], ?_⟩
    · rw [List.map_cons, ← g2]; exact .cons g1 g3 hw2
    · rw [← g2]; exact .cons g1 hd.1 hd.2.1 hr2

theorem steps_least {S : List Leg} (hS : Good S) {to dl : Int} (m : Nat) : ∀ {p t : Int} {ls : List Leg} {b : Int}, Gway S p t ls to b → b ≤ dl → dl - 86400 ≤ t → ls.length = m →
    idsLt ls ((steps S (bwd S to dl) m p t).map (·.1)) = false := by
  induction m with
  | zero =>
    intro p t ls b h hb ht hl
    have : ls = [] := List.eq_nil_of_length_eq_zero hl
    subst this
    rfl
  | succ m ih =>
    intro p t ls b h hb ht hl
    obtain ⟨l0, ls0, rfl⟩ : ∃ l0 ls0, ls = l0 :: ls0 := by
      cases ls with
      | nil => simp at hl
      | cons a l => exact ⟨a, l, rfl⟩
    obtain ⟨h1, rfl, d0, h2, h3⟩ := h.inv
    have hn0 := next_lt h2
    obtain ⟨v, hv, hvl⟩ := bwd_complete h3 hb (by omega) m (by simp at hl; omega)
    obtain ⟨l, d, hp, hid⟩ := pick_of (late := bwd S to dl m) h1 rfl h2 hv (by omega) hS.sorted
    obtain ⟨g1, g2, g3, u, hu, hul⟩ := pick_some hp
    have e : steps S (bwd S to dl) (m + 1) l0.src t = (l, d) :: steps S (bwd S to dl) m l.dst (d + l.mins) := by
      show (match pick S l0.src t (bwd S to dl m) with | some (l, d) => (l, d) :: steps S (bwd S to dl) m l.dst (d + l.mins) | none => []) = _
      rw [hp]
    rw [e, List.map_cons, idsLt]
    by_cases he : l0.id = l.id
    · have := hS.ids _ h1 _ g1 he
      subst this
      rw [if_pos rfl]
      rw [h2] at g3
      injection g3 with g3
      subst g3
      exact ih h3 hb (by omega) (by simpa using hl)
    · rw [if_neg he]; simp only [decide_eq_false_iff_not]; omega
/-! ### the legs by their IDs -/
def ins (a : Leg) : List Leg → List Leg
  | [] => [a]
  | b :: l => if a.id ≤ b.id then a :: b :: l else b :: ins a l
def isort : List Leg → List Leg
  | [] => []
  | a :: l => ins a (isort l)

theorem ins_perm (a : Leg) : ∀ l, (ins a l).Perm (a :: l)
  | [] => List.Perm.refl _
  | b :: l => by
    unfold ins
    by_cases h : a.id ≤ b.id
    · rw [if_pos h]
    · rw [if_neg h]; exact ((ins_perm a l).cons b).trans (List.Perm.swap a b l)
theorem isort_perm : ∀ l, (isort l).Perm l
  | [] => List.Perm.refl _
  | a :: l => (ins_perm a _).trans ((isort_perm l).cons a)
theorem ins_sorted (a : Leg) : ∀ l, l.Pairwise (fun a b => a.id ≤ b.id) → (ins a l).Pairwise (fun a b => a.id ≤ b.id)
  | [], _ => by simp [ins]
  | b :: l, h => by
    have h' := List.pairwise_cons.1 h
    unfold ins
    by_cases hc : a.id ≤ b.id
    · rw [if_pos hc]
      refine List.pairwise_cons.2 ⟨fun x hx => ?_, h⟩
      rcases List.mem_cons.1 hx with rfl | hx
      · exact hc
      · have := h'.1 x hx; omega
    · rw [if_neg hc]
      refine List.pairwise_cons.2 ⟨fun x hx => ?_, ins_sorted a l h'.2⟩
      rcases List.mem_cons.1 ((ins_perm a l).mem_iff.1 hx) with rfl | hx
      · omega
      · exact h'.1 x hx
theorem isort_sorted : ∀ l, (isort l).Pairwise (fun a b => a.id ≤ b.id)
  | [] => List.Pairwise.nil
  | a :: l => ins_sorted a _ (isort_sorted l)

theorem sorted_unique : ∀ (l m : List Leg), l.Perm m → l.Pairwise (fun a b => a.id ≤ b.id) → m.Pairwise (fun a b => a.id ≤ b.id) → (∀ a ∈ l, ∀ b ∈ l, a.id = b.id → a = b) → l = m
  | [], m, hp, _, _, _ => by rw [List.nil_perm.1 hp]
  | a :: l, [], hp, _, _, _ => by have := hp.length_eq; simp at this
  | a :: l, b :: m, hp, hl, hm, hi => by
    have hl' := List.pairwise_cons.1 hl
    have hm' := List.pairwise_cons.1 hm
    have ha : a ∈ b :: m := hp.mem_iff.1 List.mem_cons_self
    have hb : b ∈ a :: l := hp.mem_iff.2 List.mem_cons_self
    have h1 : a.id ≤ b.id := by
      rcases List.mem_cons.1 hb with rfl | hb
      · exact Int.le_refl _
      · exact hl'.1 b hb
    have h2 : b.id ≤ a.id := by
      rcases List.mem_cons.1 ha with rfl | ha
      · exact Int.le_refl _
      · exact hm'.1 a ha
    have e : a = b := hi a List.mem_cons_self b hb (by omega)
    subst e
    rw [sorted_unique l m (List.Perm.cons_inv hp) hl'.2 hm'.2 (fun x hx y hy => hi x (List.mem_cons_of_mem _ hx) y (List.mem_cons_of_mem _ hy))]

/-! ### networks -/
structure Nw where
  plants : List Int
  legs : List Leg

structure Nw.Valid (N : Nw) : Prop where
  many : N.plants.length ≤ 50
  manyL : N.legs.length ≤ 200
  range : ∀ p ∈ N.plants, 1 ≤ p ∧ p ≤ 999999
  nodup : N.plants.Nodup
  right : ∀ l ∈ N.legs, l.right = true
  src : ∀ l ∈ N.legs, l.src ∈ N.plants
  dst : ∀ l ∈ N.legs, l.dst ∈ N.plants
  ids : (N.legs.map (·.id)).Nodup

def Nw.S (N : Nw) : List Leg := isort N.legs

theorem ids_eq : ∀ (l : List Leg), (l.map (·.id)).Nodup → ∀ a ∈ l, ∀ b ∈ l, a.id = b.id → a = b
  | [], _, _, h, _, _, _ => by cases h
  | x :: l, hn, a, ha, b, hb, e => by
    simp only [List.map_cons] at hn
    have hn' := List.nodup_cons.1 hn
    have key : ∀ y ∈ l, x.id ≠ y.id := fun y hy e => hn'.1 (List.mem_map.2 ⟨y, hy, e.symm⟩)
    rcases List.mem_cons.1 ha with h1 | h1
    · rcases List.mem_cons.1 hb with h2 | h2
      · rw [h1, h2]
      · subst h1; exact absurd e (key b h2)
    · rcases List.mem_cons.1 hb with h2 | h2
      · subst h2; exact absurd e.symm (key a h1)
      · exact ids_eq l hn'.2 a h1 b h2 e

theorem Nw.memS {N : Nw} {l : Leg} : l ∈ N.S ↔ l ∈ N.legs := (isort_perm N.legs).mem_iff
theorem Nw.Valid.good {N : Nw} (h : N.Valid) : Good N.S where
  sorted := isort_sorted _
  ids a ha b hb e := ids_eq _ h.ids a (Nw.memS.1 ha) b (Nw.memS.1 hb) e

/-- The earliest arrivals, the latest ready times (negative). -/
def Nw.early (N : Nw) (p t : Int) : Row := fwd N.S p t N.plants.length
def Nw.late (N : Nw) (q s : Int) : Row := bwd N.S q s N.plants.length

theorem Nw.Valid.fwd_all {N : Nw} (h : N.Valid) {p t : Int} (hp : p ∈ N.plants) (k : Nat) (hk : N.plants.length ≤ k + 1) : fwd N.S p t k = N.early p t := by
  have h0 : fwd N.S p t (k + 1) = fwd N.S p t k := fwd_stable (plants := N.plants) p t hp (fun l hl => h.dst l (Nw.memS.1 hl)) hk
  by_cases e : N.plants.length ≤ k
  · have h1 : fwd N.S p t (N.plants.length + 1) = fwd N.S p t N.plants.length := fwd_stable (plants := N.plants) p t hp (fun l hl => h.dst l (Nw.memS.1 hl)) (by omega)
    exact fwd_fix h1 k e
  · have : k + 1 = N.plants.length := by omega
    unfold Nw.early
    rw [← this, h0]
theorem Nw.Valid.bwd_all {N : Nw} (h : N.Valid) {p t : Int} (hp : p ∈ N.plants) (k : Nat) (hk : N.plants.length ≤ k + 1) : bwd N.S p t k = N.late p t := by
  have h0 : bwd N.S p t (k + 1) = bwd N.S p t k := bwd_stable (plants := N.plants) p t hp (fun l hl => h.src l (Nw.memS.1 hl)) hk
  by_cases e : N.plants.length ≤ k
  · have h1 : bwd N.S p t (N.plants.length + 1) = bwd N.S p t N.plants.length := bwd_stable (plants := N.plants) p t hp (fun l hl => h.src l (Nw.memS.1 hl)) (by omega)
    exact bwd_fix h1 k e
  · have : k + 1 = N.plants.length := by omega
    unfold Nw.late
    rw [← this, h0]

theorem Nw.early_sound {N : Nw} {p t q v : Int} (h : N.early p t q = some v) : ∃ ls : List Leg, ls.length ≤ N.plants.length ∧ Gway N.S p t ls q v ∧ v ≤ t + 86400 ∧ t ≤ v := by
  obtain ⟨ls, h1, h2, h3⟩ := fwd_sound h
  exact ⟨ls, h1, h2, h3, by have := h2.le; omega⟩
theorem Nw.Valid.early_complete {N : Nw} (h : N.Valid) {p t : Int} (hp : p ∈ N.plants) {ls : List Leg} {q b : Int} (hw : Gway N.S p t ls q b) (hb : b ≤ t + 86400) : ∃ v, N.early p t q = some v ∧ v ≤ b := by
  rw [← h.fwd_all hp (ls.length + N.plants.length) (by omega)]
  exact fwd_complete hw hb (by omega)
theorem Nw.early_self {N : Nw} {p t : Int} : N.early p t p = some t := by
  obtain ⟨v, hv, hle⟩ := fwd_complete (S := N.S) (.nil p t) (by omega) (k := N.plants.length) (by simp)
  obtain ⟨ls, _, hw, _⟩ := fwd_sound hv
  have := hw.le
  rw [show N.early p t p = _ from hv]
  congr 1; omega
theorem Nw.late_self {N : Nw} {q s : Int} : N.late q s q = some (-s) := by
  obtain ⟨v, hv, hle⟩ := bwd_complete (S := N.S) (dl := s) (.nil q s) (by omega) (by omega) N.plants.length (by simp)
  have h1 := (bwd_sound _ hv).1
  rw [show N.late q s q = _ from hv]
  congr 1; omega

/-- The latest ready time: what is ready by then arrives in time. -/
theorem Nw.late_sound {N : Nw} {q s p v : Int} (hv : N.late q s p = some v) : (s - 86400 ≤ -v ∧ -v ≤ s) ∧ ∀ t, t ≤ -v → ∃ (ls : List Leg) (b : Int), Gway N.S p t ls q b ∧ b ≤ s := by
  obtain ⟨h1, h2⟩ := bwd_sound _ hv
  exact ⟨h1, fun t ht => by obtain ⟨ls, b, _, hw, hb⟩ := h2 t ht; exact ⟨ls, b, hw, hb⟩⟩
theorem Nw.Valid.late_complete {N : Nw} (h : N.Valid) {q s p t : Int} {ls : List Leg} {b : Int} (hq : q ∈ N.plants) (hw : Gway N.S p t ls q b) (hb : b ≤ s) (ht : s - 86400 ≤ t) : ∃ v, N.late q s p = some v ∧ t ≤ -v := by
  rw [← h.bwd_all hq (ls.length + N.plants.length) (by omega)]
  exact bwd_complete hw hb ht _ (by omega)

/-! ### the best way -/
def firstK (f : Nat → Bool) : Nat → Nat → Nat
  | 0, k => k
  | n + 1, k => if f k then k else firstK f n (k + 1)

theorem firstK_spec (f : Nat → Bool) : ∀ n k, f (k + n) = true → f (firstK f n k) = true ∧ (∀ j, k ≤ j → j < firstK f n k → f j = false) ∧ firstK f n k ≤ k + n
  | 0, k, h => ⟨h, fun j h1 h2 => by simp [firstK] at h2; omega, Nat.le_refl _⟩
  | n + 1, k, h => by
    unfold firstK
    by_cases hk : f k = true
    · rw [if_pos hk]; exact ⟨hk, fun j h1 h2 => by omega, by omega⟩
    · rw [if_neg hk]
      obtain ⟨h1, h2, h3⟩ := firstK_spec f n (k + 1) (by rw [show k + 1 + n = k + (n + 1) by omega]; exact h)
      refine ⟨h1, fun j hj hj2 => ?_, by omega⟩
      by_cases e : j = k
      · subst e; simpa using hk
      · exact h2 j (by omega) hj2

def Nw.stops (N : Nw) (p q t e : Int) : Nat := firstK (fun k => decide (fwd N.S p t k q = some e)) N.plants.length 0
def Nw.way (N : Nw) (p q t e : Int) : List (Leg × Int) := steps N.S (bwd N.S q e) (N.stops p q t e) p t

structure Nw.Best (N : Nw) (p q t e : Int) (w : List (Leg × Int)) : Prop where
  way : Rway N.S p t w q e
  gway : Gway N.S p t (w.map (·.1)) q e
  early : ∀ (ls : List Leg) (b : Int), Gway N.S p t ls q b → b ≤ t + 86400 → e ≤ b
  few : ∀ ls : List Leg, Gway N.S p t ls q e → w.length ≤ ls.length
  least : ∀ ls : List Leg, Gway N.S p t ls q e → ls.length = w.length → idsLt ls (w.map (·.1)) = false
  free : (p :: w.map (·.1.dst)).Nodup
  wait : e ≤ t + 86400

theorem Nw.Valid.best {N : Nw} (h : N.Valid) {p q t e : Int} (hp : p ∈ N.plants) (he : N.early p t q = some e) : N.Best p q t e (N.way p q t e) ∧ (N.way p q t e).length = N.stops p q t e ∧ N.stops p q t e ≤ N.plants.length := by
  obtain ⟨l0, _, hw0, hL, _⟩ := N.early_sound he
  have hearly : ∀ (ls : List Leg) (b : Int), Gway N.S p t ls q b → b ≤ t + 86400 → e ≤ b := fun ls b hw hb => by
    obtain ⟨v, hv, hle⟩ := h.early_complete hp hw hb
    rw [he] at hv; injection hv with hv; omega
  obtain ⟨k1, k2, k3⟩ := firstK_spec (fun k => decide (fwd N.S p t k q = some e)) N.plants.length 0 (by simpa [Nw.early] using he)
  have hst : firstK (fun k => decide (fwd N.S p t k q = some e)) N.plants.length 0 = N.stops p q t e := rfl
  rw [hst] at k1 k2 k3
  simp only [decide_eq_true_eq] at k1
  obtain ⟨ls, hls, hw, _⟩ := fwd_sound k1
  have hmin : ∀ (ls' : List Leg) (b' : Int), Gway N.S p t ls' q b' → b' ≤ e → N.stops p q t e ≤ ls'.length := fun ls' b' hw' hb' => by
    rcases Nat.lt_or_ge ls'.length (N.stops p q t e) with hlt | hge
    · exfalso
      obtain ⟨v, hv, hle⟩ := fwd_complete hw' (by omega) (Nat.le_refl _)
      have hne := k2 _ (Nat.zero_le _) hlt
      simp only [decide_eq_false_iff_not] at hne
      obtain ⟨ls2, _, hw2, hb2⟩ := fwd_sound hv
      have := hearly ls2 v hw2 hb2
      exact hne (by rw [hv]; congr 1; omega)
    · exact hge
  obtain ⟨b', g1, g2, g3, g4⟩ := steps_way h.good (N.stops p q t e) hw (Int.le_refl _) (by omega) hls hmin
  have hb' : b' = e := by have := hearly _ _ g1 (by omega); omega
  subst hb'
  have g1' : Gway N.S p t ((N.way p q t b').map (·.1)) q b' := g1
  have g3' : (N.way p q t b').length = N.stops p q t b' := g3
  refine ⟨⟨g4, g1', hearly, fun ls' hw' => ?_, fun ls' hw' hlen => ?_, ?_, hL⟩, g3', by omega⟩
  · rw [g3']; exact hmin ls' _ hw' (Int.le_refl _)
  · exact steps_least h.good _ hw' (Int.le_refl _) (by omega) (by omega)
  · obtain ⟨es, b2, hw2, hb2, hn, _, hcase⟩ := (g1'.walks (L := t + 86400) hL).free (fedges_ok N.S _)
    rcases hcase with ⟨rfl, _⟩ | hlt
    · have e1 : ((((N.way p q t b').map (·.1)).map (fedge (t + 86400))).map (·.dst)) = (N.way p q t b').map (·.1.dst) := by
        rw [List.map_map, List.map_map]; rfl
      rwa [e1] at hn
    · exfalso
      obtain ⟨ls3, rfl, hw3, _⟩ := Gway.of_walks hw2
      have := hmin ls3 b2 hw3 hb2
      simp only [List.length_map] at hlt
      omega

theorem idsLt_total {S : List Leg} (hS : Good S) : ∀ (l m : List Leg), (∀ a ∈ l, a ∈ S) → (∀ a ∈ m, a ∈ S) → l.length = m.length → idsLt l m = false → idsLt m l = false → l = m
  | [], [], _, _, _, _, _ => rfl
  | [], _ :: _, _, _, h, _, _ => by simp at h
  | _ :: _, [], _, _, h, _, _ => by simp at h
  | a :: l, b :: m, h1, h2, hl, h3, h4 => by
    unfold idsLt at h3 h4
    by_cases e : a.id = b.id
    · rw [if_pos e] at h3
      rw [if_pos e.symm] at h4
      have : a = b := hS.ids a (h1 a List.mem_cons_self) b (h2 b List.mem_cons_self) e
      subst this
      rw [idsLt_total hS l m (fun x hx => h1 x (List.mem_cons_of_mem _ hx)) (fun x hx => h2 x (List.mem_cons_of_mem _ hx)) (by simpa using hl) h3 h4]
    · rw [if_neg e] at h3
      rw [if_neg (fun x => e x.symm)] at h4
      simp only [decide_eq_false_iff_not] at h3 h4
      omega

/-- Whatever is best is the same list of legs. -/
theorem Nw.Best.legs_unique {N : Nw} (hN : N.Valid) {p q t e e' : Int} {w v : List (Leg × Int)} (hw : N.Best p q t e w) (hv : N.Best p q t e' v) : e = e' ∧ w.map (·.1) = v.map (·.1) := by
  have h1 := hw.early _ _ hv.gway hv.wait
  have h2 := hv.early _ _ hw.gway hw.wait
  have he : e = e' := by omega
  subst he
  have l1 := hw.few _ hv.gway
  have l2 := hv.few _ hw.gway
  simp only [List.length_map] at l1 l2
  refine ⟨rfl, ?_⟩
  have a1 := hw.least _ hv.gway (by simp; omega)
  have a2 := hv.least _ hw.gway (by simp; omega)
  exact idsLt_total hN.good _ _ (hw.gway.mem) (hv.gway.mem) (by simp; omega) a2 a1
def plantsOk (l : List Int) : Bool := decide l.Nodup && l.all (fun p => decide (1 ≤ p) && decide (p ≤ 999999))
def legsOk (plants : List Int) (l : List Leg) : Bool := decide ((l.map (·.id)).Nodup) && l.all (fun x => x.right && plants.contains x.src && plants.contains x.dst)
/-- What is wrong with a network (0: nothing). -/
def errOf (plants : List Int) (legs : List Leg) : Int :=
  if 50 < plants.length ∨ 200 < legs.length then 5 else if plantsOk plants = false then 320 else if legsOk plants legs = false then 321 else 0

theorem nodup_snoc {α : Type} {l : List α} {a : α} : (l ++ [a]).Nodup ↔ l.Nodup ∧ a ∉ l := by
  rw [List.nodup_append]
  simp only [List.nodup_cons, List.not_mem_nil, not_false_eq_true, List.nodup_nil, and_true, List.mem_singleton, true_and]
  constructor
  · rintro ⟨h1, h2⟩; exact ⟨h1, fun h => h2 a h a rfl rfl⟩
  · rintro ⟨h1, h2⟩; exact ⟨h1, fun x hx y hy e => h2 (hy ▸ e ▸ hx)⟩

theorem plantsOk_snoc (l : List Int) (p : Int) : plantsOk (l ++ [p]) = true ↔ plantsOk l = true ∧ l.contains p = false ∧ 1 ≤ p ∧ p ≤ 999999 := by
  unfold plantsOk
  simp only [Bool.and_eq_true, decide_eq_true_eq, List.all_append, List.all_cons, List.all_nil, Bool.and_true, nodup_snoc, List.contains_eq_mem, decide_eq_false_iff_not]
  constructor
  · rintro ⟨⟨h1, h2⟩, h3, h4⟩; exact ⟨⟨h1, h3⟩, h2, h4⟩
  · rintro ⟨⟨h1, h3⟩, h2, h4⟩; exact ⟨⟨h1, h2⟩, h3, h4⟩
theorem legsOk_snoc (pl : List Int) (l : List Leg) (x : Leg) : legsOk pl (l ++ [x]) = true ↔ legsOk pl l = true ∧ (l.map (·.id)).contains x.id = false ∧ x.right = true ∧ pl.contains x.src = true ∧ pl.contains x.dst = true := by
  unfold legsOk
  simp only [Bool.and_eq_true, decide_eq_true_eq, List.all_append, List.all_cons, List.all_nil, Bool.and_true, List.map_append, List.map_cons, List.map_nil, nodup_snoc, List.contains_eq_mem, decide_eq_false_iff_not]
  constructor
  · rintro ⟨⟨h1, h2⟩, h3, ⟨h4, h5⟩, h6⟩; exact ⟨⟨h1, h3⟩, h2, h4, h5, h6⟩
  · rintro ⟨⟨h1, h3⟩, h2, h4, h5, h6⟩; exact ⟨⟨h1, h2⟩, h3, ⟨h4, h5⟩, h6⟩

theorem plantsOk_left {l m : List Int} (h : plantsOk (l ++ m) = true) : plantsOk l = true := by
  unfold plantsOk at *
  simp only [Bool.and_eq_true, decide_eq_true_eq, List.all_append] at *
  exact ⟨(List.nodup_append.1 h.1).1, h.2.1⟩
theorem legsOk_left {pl : List Int} {l m : List Leg} (h : legsOk pl (l ++ m) = true) : legsOk pl l = true := by
  unfold legsOk at *
  simp only [Bool.and_eq_true, decide_eq_true_eq, List.all_append, List.map_append] at *
  exact ⟨(List.nodup_append.1 h.1).1, h.2.1⟩

theorem take_succ_getD {α : Type} (l : List α) (d : α) (k : Nat) (h : k < l.length) : l.take (k + 1) = l.take k ++ [l.getD k d] := by
  rw [List.take_succ_eq_append_getElem h, List.getD_eq_getElem?_getD, List.getElem?_eq_getElem h]; rfl

theorem plantsOk_false {l : List Int} {k : Nat} (hk : k < l.length) (h : ¬ ((l.take k).contains (l.getD k 0) = false ∧ 1 ≤ l.getD k 0 ∧ l.getD k 0 ≤ 999999)) : plantsOk l = false := by
  cases hp : plantsOk l with
  | false => rfl
  | true =>
    exfalso
    rw [← List.take_append_drop (k + 1) l] at hp
    have h1 := plantsOk_left hp
    rw [take_succ_getD l 0 k hk] at h1
    exact h ((plantsOk_snoc _ _).1 h1).2

theorem legsOk_false {pl : List Int} {l : List Leg} {d : Leg} {k : Nat} (hk : k < l.length) (h : ¬ (((l.take k).map (·.id)).contains (l.getD k d).id = false ∧ (l.getD k d).right = true ∧ pl.contains (l.getD k d).src = true ∧ pl.contains (l.getD k d).dst = true)) : legsOk pl l = false := by
  cases hp : legsOk pl l with
  | false => rfl
  | true =>
    exfalso
    rw [← List.take_append_drop (k + 1) l] at hp
    have h1 := legsOk_left hp
    rw [take_succ_getD l d k hk] at h1
    exact h ((legsOk_snoc _ _ _).1 h1).2

theorem valid_of_errOf {plants : List Int} {legs : List Leg} (h : errOf plants legs = 0) : Nw.Valid ⟨plants, legs⟩ := by
  unfold errOf at h
  split at h
  · cases h
  rename_i h0
  split at h
  · cases h
  rename_i h1
  split at h
  · cases h
  rename_i h2
  have h1 : plantsOk plants = true := by simpa using h1
  have h2 : legsOk plants legs = true := by simpa using h2
  unfold plantsOk at h1
  unfold legsOk at h2
  simp only [Bool.and_eq_true, decide_eq_true_eq, List.all_eq_true, List.contains_eq_mem] at h1 h2
  exact ⟨show plants.length ≤ 50 by omega, show legs.length ≤ 200 by omega, h1.2, h1.1, fun l hl => (h2.2 l hl).1.1, fun l hl => (h2.2 l hl).1.2, fun l hl => (h2.2 l hl).2, h2.1⟩

theorem errOf_of_valid {plants : List Int} {legs : List Leg} (h : Nw.Valid ⟨plants, legs⟩) : errOf plants legs = 0 := by
  have h1 : plantsOk plants = true := by
    unfold plantsOk
    simp only [Bool.and_eq_true, decide_eq_true_eq, List.all_eq_true]
    exact ⟨h.nodup, h.range⟩
  have h2 : legsOk plants legs = true := by
    unfold legsOk
    simp only [Bool.and_eq_true, decide_eq_true_eq, List.all_eq_true, List.contains_eq_mem]
    exact ⟨h.ids, fun l hl => ⟨⟨h.right l hl, h.src l hl⟩, h.dst l hl⟩⟩
  unfold errOf
  have := h.many
  have := h.manyL
  dsimp only at *
  rw [if_neg (by omega), h1, h2]
  rfl
def enc : Option Int → Int
  | some v => v
  | none => -1
def encN : Option Int → Int
  | some v => -v
  | none => -1
def Nw.arriveL (N : Nw) (p t : Int) : List Int := N.plants.map fun x => enc (N.early p t x)
def Nw.leaveL (N : Nw) (q s : Int) : List Int := N.plants.map fun x => encN (N.late q s x)

/-- What is wrong with a network, plants or a time. -/
def Nw.openErr (N : Nw) (time : Int) (ps : List Int) : Int :=
  if errOf N.plants N.legs ≠ 0 then errOf N.plants N.legs
  else if ps.all (fun p => N.plants.contains p) && decide (0 ≤ time) && decide (time ≤ 1051898399) then 0 else 2

/-- Stops that are a way. -/
def rightGo (N : Nw) (to : Int) : Int → Int → List (Int × Int × Int) → Bool
  | at_, _, [] => decide (at_ = to)
  | at_, time, (leg, dep, arr) :: l => match N.legs.find? (fun x => decide (x.id = leg)) with
    | none => false
    | some x => if x.src = at_ ∧ 0 ≤ dep then
        match onDay x (dep / 1440) with
        | some d => if d = dep ∧ d + x.mins = arr ∧ time ≤ d - x.cut then rightGo N to x.dst (d + x.mins) l else false
        | none => false
      else false
/-! ### two times -/
theorem Nw.Valid.later {N : Nw} (h : N.Valid) {p a b q v v' : Int} (hp : p ∈ N.plants) (hab : a ≤ b) (h1 : N.early p a q = some v) (h2 : N.early p b q = some v') : v ≤ v' := by
  obtain ⟨ls, _, hw, hb, _⟩ := N.early_sound h2
  obtain ⟨c, hw', hc⟩ := hw.mono a hab
  obtain ⟨_, _, _, hva, _⟩ := N.early_sound h1
  by_cases e : c ≤ a + 86400
  · obtain ⟨u, hu, hle⟩ := h.early_complete hp hw' e
    rw [h1] at hu; injection hu with hu; omega
  · omega
theorem Nw.Valid.later' {N : Nw} (h : N.Valid) {q a b p u v : Int} (hq : q ∈ N.plants) (hab : a ≤ b) (h1 : N.late q a p = some u) (h2 : N.late q b p = some v) : -u ≤ -v := by
  obtain ⟨⟨_, hu⟩, hf⟩ := N.late_sound h1
  obtain ⟨⟨hv, _⟩, _⟩ := N.late_sound h2
  by_cases e : b - 86400 ≤ -u
  · obtain ⟨ls, c, hw, hc⟩ := hf (-u) (Int.le_refl _)
    obtain ⟨x, hx, hle⟩ := h.late_complete hq hw (by omega) e
    rw [h2] at hx; injection hx with hx; omega
  · omega

/-! ### the latest ready time -/
theorem Nw.Valid.leave_iff {N : Nw} (h : N.Valid) {p q t dl : Int} (hp : p ∈ N.plants) (hq : q ∈ N.plants) (ht : dl - 86400 ≤ t) : (∃ v, N.early p t q = some v ∧ v ≤ dl) ↔ (∃ w, N.late q dl p = some w ∧ t ≤ -w) := by
  constructor
  · rintro ⟨v, hv, hle⟩
    obtain ⟨ls, _, hw, _, _⟩ := N.early_sound hv
    exact h.late_complete hq hw hle ht
  · rintro ⟨w, hw, hle⟩
    obtain ⟨_, hf⟩ := N.late_sound hw
    obtain ⟨ls, b, hg, hb⟩ := hf t hle
    obtain ⟨v, hv, hv'⟩ := h.early_complete hp hg (by omega)
    exact ⟨v, hv, by omega⟩

/-! ### another order -/
theorem Nw.Valid.turned {N M : Nw} (hN : N.Valid) (hl : M.legs.Perm N.legs) (hp : M.plants.Perm N.plants) : M.Valid ∧ M.S = N.S ∧ (∀ p t, M.early p t = N.early p t) ∧ (∀ q s, M.late q s = N.late q s) ∧ ∀ p q t e, M.way p q t e = N.way p q t e := by
  have hS : M.S = N.S := sorted_unique _ _ ((isort_perm _).trans (hl.trans (isort_perm _).symm)) (isort_sorted _) (isort_sorted _)
    (fun a ha b hb e => ids_eq _ hN.ids a (hl.mem_iff.1 ((isort_perm _).mem_iff.1 ha)) b (hl.mem_iff.1 ((isort_perm _).mem_iff.1 hb)) e)
  have hlen := hp.length_eq
  refine ⟨⟨by rw [hlen]; exact hN.many, by rw [hl.length_eq]; exact hN.manyL, fun p h => hN.range p (hp.mem_iff.1 h), hp.nodup_iff.2 hN.nodup, fun l h => hN.right l (hl.mem_iff.1 h), fun l h => hp.mem_iff.2 (hN.src l (hl.mem_iff.1 h)), fun l h => hp.mem_iff.2 (hN.dst l (hl.mem_iff.1 h)), (hl.map _).nodup_iff.2 hN.ids⟩, hS, ?_, ?_, ?_⟩
  · intro p t; unfold Nw.early; rw [hS, hlen]
  · intro p t; unfold Nw.late; rw [hS, hlen]
  · intro p q t e; unfold Nw.way Nw.stops; rw [hS, hlen]

/-! ### over another plant -/
theorem Nw.Valid.over {N : Nw} (h : N.Valid) {p o q t mid last : Int} (hp : p ∈ N.plants) (h1 : N.early p t o = some mid) (h2 : N.early o mid q = some last) (hl : last ≤ t + 86400) : ∃ e, N.early p t q = some e ∧ e ≤ last := by
  obtain ⟨l1, _, g1, _, _⟩ := N.early_sound h1
  obtain ⟨l2, _, g2, _, _⟩ := N.early_sound h2
  exact h.early_complete hp (g1.append g2) hl

theorem Dep.on {l : Leg} {d : Int} (h : Dep l d) : onDay l (d / 1440) = some d := by
  obtain ⟨day, h⟩ := h
  have hs := onDay_some h
  have hr := (l.right_iff).1 hs.1
  have e : d / 1440 = day := by omega
  rw [e, h]
theorem find_id : ∀ (L : List Leg), (L.map (·.id)).Nodup → ∀ l ∈ L, L.find? (fun x => decide (x.id = l.id)) = some l
  | [], _, _, h => by cases h
  | x :: L, hn, l, h => by
    simp only [List.map_cons] at hn
    have hn' := List.nodup_cons.1 hn
    rw [List.find?_cons]
    rcases List.mem_cons.1 h with rfl | h
    · simp
    · have hne : x.id ≠ l.id := fun e => hn'.1 (List.mem_map.2 ⟨l, h, e.symm⟩)
      rw [show decide (x.id = l.id) = false from decide_eq_false hne]
      exact find_id L hn'.2 l h
def st (x : Leg × Int) : Int × Int × Int := (x.1.id, x.2, x.2 + x.1.mins)
/-- A way is right. -/
theorem Rway.right {N : Nw} (h : N.Valid) {p t : Int} {w : List (Leg × Int)} {q b : Int} (hw : Rway N.S p t w q b) : rightGo N q p t (w.map st) = true := by
  induction hw with
  | nil p t => simp [rightGo]
  | @cons t d l ls q b h1 h2 h3 _ ih =>
    rw [List.map_cons]
    show rightGo N q l.src t ((l.id, d, d + l.mins) :: ls.map st) = true
    unfold rightGo
    rw [find_id _ h.ids l (Nw.memS.1 h1)]
    dsimp only
    rw [if_pos ⟨rfl, h2.bounds.2.2⟩, h2.on]
    dsimp only
    rw [if_pos ⟨rfl, rfl, by omega⟩]
    exact ih
/-- Where a list of stops ends. -/
def endOf (t : Int) : List (Int × Int × Int) → Int
  | [] => t
  | x :: l => endOf x.2.2 l
theorem right_way {N : Nw} (h : N.Valid) {q : Int} : ∀ (l : List (Int × Int × Int)) (p t : Int), rightGo N q p t l = true → ∃ w, Rway N.S p t w q (endOf t l) ∧ w.map st = l
  | [], p, t, h => by
    simp [rightGo] at h
    subst h
    exact ⟨[], .nil _ _, rfl⟩
  | (i, d, a) :: l, p, t, hr => by
    unfold rightGo at hr
    cases hf : N.legs.find? (fun x => decide (x.id = i)) with
    | none => rw [hf] at hr; cases hr
    | some x =>
      rw [hf] at hr
      dsimp only at hr
      have hx := List.find?_some hf
      have hm := List.mem_of_find?_eq_some hf
      simp only [decide_eq_true_eq] at hx
      split at hr
      case isFalse => cases hr
      case isTrue hc =>
      obtain ⟨hc1, hc2⟩ := hc
      cases ho : onDay x (d / 1440) with
      | none => rw [ho] at hr; cases hr
      | some e =>
        rw [ho] at hr
        dsimp only at hr
        split at hr
        case isFalse => cases hr
        case isTrue hd =>
        obtain ⟨rfl, rfl, hd3⟩ := hd
        obtain ⟨w, hw, hwl⟩ := right_way h l _ _ hr
        refine ⟨(x, e) :: w, hc1 ▸ Rway.cons (Nw.memS.2 hm) ⟨_, ho⟩ (by omega) hw, ?_⟩
        rw [List.map_cons, hwl]
        show (x.id, e, e + x.mins) :: l = _
        rw [hx]
/-- The rest of a way, and its first part. -/
theorem Rway.split {S : List Leg} {p t : Int} {w : List (Leg × Int)} {q b : Int} (h : Rway S p t w q b) : ∀ (u v : List (Leg × Int)), w = u ++ v → ∃ o s, Rway S p t u o s ∧ Rway S o s v q b := by
  induction h with
  | nil p t => intro u v e; obtain ⟨rfl, rfl⟩ := List.append_eq_nil_iff.1 e.symm; exact ⟨p, t, .nil _ _, .nil _ _⟩
  | @cons t d l ls q b h1 h2 h3 h4 ih =>
    intro u v e
    cases u with
    | nil => simp at e; subst e; exact ⟨l.src, t, .nil _ _, .cons h1 h2 h3 h4⟩
    | cons x u =>
      rw [List.cons_append] at e
      injection e with e1 e2
      subst e1
      obtain ⟨o, s, g1, g2⟩ := ih u v e2
      exact ⟨o, s, .cons h1 h2 h3 g1, g2⟩
theorem Rway.nil_inv {S : List Leg} {p t q b : Int} (h : Rway S p t [] q b) : p = q ∧ t = b := by cases h; exact ⟨rfl, rfl⟩
theorem Rway.last {S : List Leg} {p t : Int} {w : List (Leg × Int)} {q b : Int} (h : Rway S p t w q b) : ∀ (u : List (Leg × Int)) (x : Leg × Int), w = u ++ [x] → q = x.1.dst ∧ b = x.2 + x.1.mins := by
  induction h with
  | nil p t => intro u x e; cases u <;> cases e
  | @cons t d l ls q b h1 h2 h3 h4 ih =>
    intro u x e
    cases u with
    | nil =>
      simp at e
      obtain ⟨rfl, rfl⟩ := e
      obtain ⟨e1, e2⟩ := h4.nil_inv
      exact ⟨e1.symm, e2.symm⟩
    | cons y u =>
      rw [List.cons_append] at e
      injection e with e1 e2
      exact ih u x e2
theorem Rway.le {S : List Leg} {p t : Int} {w : List (Leg × Int)} {q b : Int} (h : Rway S p t w q b) : t ≤ b := by
  obtain ⟨c, hg, hc⟩ := h.toG t (Int.le_refl _)
  have := hg.le
  omega
/-- Behind each stop of the best way: the same arrival, and the rest is right. -/
theorem Nw.Valid.joined {N : Nw} (h : N.Valid) {p q t e : Int} (hp : p ∈ N.plants) (he : N.early p t q = some e) (u v : List (Leg × Int)) (x : Leg × Int) (hw : N.way p q t e = u ++ x :: v) :
    N.early x.1.dst (x.2 + x.1.mins) q = some e ∧ rightGo N q x.1.dst (x.2 + x.1.mins) (v.map st) = true ∧ x.1 ∈ N.legs := by
  obtain ⟨hb, _, _⟩ := h.best hp he
  obtain ⟨o, s, g1, g2⟩ := hb.way.split (u ++ [x]) v (by rw [hw]; simp)
  obtain ⟨rfl, rfl⟩ := g1.last u x rfl
  have hx : x.1 ∈ N.S := hb.gway.mem x.1 (by rw [hw]; simp)
  obtain ⟨c, hc, hce⟩ := g2.toG _ (Int.le_refl _)
  have hle := g1.le
  have hwait := hb.wait
  obtain ⟨v', hv', hvle⟩ := h.early_complete (h.dst _ (Nw.memS.1 hx)) hc (by omega)
  obtain ⟨l2, _, k2, _, _⟩ := N.early_sound hv'
  obtain ⟨r2, kr, _⟩ := k2.toR
  refine ⟨?_, Rway.right h g2, Nw.memS.1 hx⟩
  rw [hv']
  congr 1
  -- the first part, and then that way
  obtain ⟨d1, hd1, hd1e⟩ := g1.toG t (Int.le_refl _)
  obtain ⟨d2, hd2, hd2e⟩ := k2.mono d1 hd1e
  have := hb.early _ _ (hd1.append hd2) (by omega)
  omega

/-! ### fewer legs -/
theorem Gway.more {S T : List Leg} (h : ∀ l ∈ S, l ∈ T) {p t : Int} {ls : List Leg} {q b : Int} (hw : Gway S p t ls q b) : Gway T p t ls q b := hw.sub fun l hl => h l (hw.mem l hl)
theorem Nw.Valid.fewer {N M : Nw} (hN : N.Valid) {p q t v : Int} (hp : p ∈ N.plants) (hs : ∀ l ∈ M.legs, l ∈ N.legs) (h : M.early p t q = some v) : ∃ u, N.early p t q = some u ∧ u ≤ v := by
  obtain ⟨ls, _, g, hb, _⟩ := M.early_sound h
  exact hN.early_complete hp (g.more fun l hl => Nw.memS.2 (hs l (Nw.memS.1 hl))) hb
theorem Rway.subS {S T : List Leg} {p t : Int} {w : List (Leg × Int)} {q b : Int} (h : Rway S p t w q b) : (∀ x ∈ w, x.1 ∈ T) → Rway T p t w q b := by
  induction h with
  | nil p t => intro _; exact .nil _ _
  | cons h1 h2 h3 _ ih => intro h; exact .cons (h _ List.mem_cons_self) h2 h3 (ih fun x hx => h x (List.mem_cons_of_mem _ hx))
theorem Nw.Best.fewer {N M : Nw} {p q t e : Int} {w : List (Leg × Int)} (hb : N.Best p q t e w) (hs : ∀ l ∈ M.legs, l ∈ N.legs) (hw : ∀ x ∈ w, x.1 ∈ M.legs) : M.Best p q t e w where
  way := hb.way.subS fun x hx => Nw.memS.2 (hw x hx)
  gway := hb.gway.sub fun l hl => by obtain ⟨x, hx, rfl⟩ := List.mem_map.1 hl; exact Nw.memS.2 (hw x hx)
  early ls b g hl := hb.early ls b (g.more fun l hl => Nw.memS.2 (hs l (Nw.memS.1 hl))) hl
  few ls g := hb.few ls (g.more fun l hl => Nw.memS.2 (hs l (Nw.memS.1 hl)))
  least ls g hl := hb.least ls (g.more fun l hl => Nw.memS.2 (hs l (Nw.memS.1 hl))) hl
  free := hb.free
  wait := hb.wait
theorem steps_succ (S : List Leg) (f : Nat → Row) (m : Nat) (p t : Int) : steps S f (m + 1) p t = match pick S p t (f m) with
    | some (l, d) => (l, d) :: steps S f m l.dst (d + l.mins)
    | none => [] := rfl
/-- A list of stops as long as it may be: each leg is found. -/
theorem steps_full {S : List Leg} {f : Nat → Row} {m : Nat} {p t : Int} (h : (steps S f (m + 1) p t).length = m + 1) : ∃ l d, pick S p t (f m) = some (l, d) ∧ steps S f (m + 1) p t = (l, d) :: steps S f m l.dst (d + l.mins) ∧ (steps S f m l.dst (d + l.mins)).length = m := by
  rw [steps_succ] at h ⊢
  cases hp : pick S p t (f m) with
  | none => rw [hp] at h; cases h
  | some x =>
    obtain ⟨l, d⟩ := x
    rw [hp] at h
    exact ⟨l, d, rfl, rfl, by simpa using h⟩
/-- The departures are those of the legs. -/
theorem steps_legs {S T : List Leg} {f g : Nat → Row} : ∀ (m n : Nat) (p t : Int), (steps S f m p t).map (·.1) = (steps T g n p t).map (·.1) → steps S f m p t = steps T g n p t
  | 0, n, p, t, h => by
    have h' : steps T g n p t = [] := List.map_eq_nil_iff.1 h.symm
    rw [h']; rfl
  | m + 1, 0, p, t, h => by
    have h' : steps S f (m + 1) p t = [] := List.map_eq_nil_iff.1 h
    rw [h']; rfl
  | m + 1, n + 1, p, t, h => by
    rw [steps_succ, steps_succ] at h ⊢
    cases h1 : pick S p t (f m) with
    | none =>
      rw [h1] at h
      exact (List.map_eq_nil_iff.1 h.symm).symm
    | some x =>
      obtain ⟨l, d⟩ := x
      rw [h1] at h
      cases h2 : pick T p t (g n) with
      | none => rw [h2] at h; cases h
      | some y =>
        obtain ⟨l', d'⟩ := y
        rw [h2] at h
        simp only [List.map_cons, List.cons.injEq] at h
        obtain ⟨rfl, hr⟩ := h
        obtain ⟨_, _, g1, _⟩ := pick_some h1
        obtain ⟨_, _, g2, _⟩ := pick_some h2
        rw [g1] at g2
        injection g2 with g2
        subst g2
        dsimp only
        rw [steps_legs m n _ _ hr]
/-- Without legs that the best way does not have it stays the best way. -/
theorem Nw.Valid.without {N M : Nw} (hN : N.Valid) (hM : M.Valid) (hpl : M.plants = N.plants) (hs : ∀ l ∈ M.legs, l ∈ N.legs) {p q t e : Int} (hp : p ∈ N.plants) (he : N.early p t q = some e) (hw : ∀ x ∈ N.way p q t e, x.1 ∈ M.legs) :
    M.early p t q = some e ∧ M.way p q t e = N.way p q t e := by
  obtain ⟨hb, _, _⟩ := hN.best hp he
  have hb' := hb.fewer hs hw
  obtain ⟨v, hv, hle⟩ := hM.early_complete (hpl ▸ hp) hb'.gway hb'.wait
  obtain ⟨ls, _, g, hg, _⟩ := M.early_sound hv
  have h1 := hb'.early _ _ g hg
  have : v = e := by omega
  subst this
  obtain ⟨hc, _, _⟩ := hM.best (hpl ▸ hp) hv
  obtain ⟨_, hl⟩ := hc.legs_unique hM hb'
  exact ⟨hv, steps_legs _ _ _ _ hl⟩
/-! ### what the laws ask -/
theorem Gway.top {S : List Leg} {p t : Int} {ls : List Leg} {q b : Int} (h : Gway S p t ls q b) (ht : t ≤ 1051898399) : b ≤ 1051898399 := by
  induction h with
  | nil => exact ht
  | cons _ h2 _ ih => have := next_lt h2; exact ih (by omega)
theorem Nw.early_good {N : Nw} {p t q v : Int} (h : N.early p t q = some v) (ht : t ≤ 1051898399) : t ≤ v ∧ v ≤ 1051898399 ∧ v ≤ t + 86400 := by
  obtain ⟨ls, _, hw, h1, h2⟩ := N.early_sound h
  exact ⟨h2, hw.top ht, h1⟩
theorem enc_pos {N : Nw} {p t q : Int} (h0 : 0 ≤ t) (ht : t ≤ 1051898399) (h : 0 ≤ enc (N.early p t q)) : ∃ v, N.early p t q = some v ∧ enc (N.early p t q) = v ∧ t ≤ v ∧ v ≤ 1051898399 ∧ v ≤ t + 86400 := by
  cases he : N.early p t q with
  | none => rw [he] at h; simp [enc] at h
  | some v => obtain ⟨h1, h2, h3⟩ := N.early_good he ht; exact ⟨v, rfl, rfl, h1, h2, h3⟩
/-- Over another plant. -/
theorem Nw.Valid.over_facts {N : Nw} (h : N.Valid) {p o q t : Int} (hp : p ∈ N.plants) (h0 : 0 ≤ t) (ht : t ≤ 1051898399) (hm : 0 ≤ enc (N.early p t o)) :
    enc (N.early p t o) ≤ 1051898399 ∧ (0 ≤ enc (N.early o (enc (N.early p t o)) q) → enc (N.early o (enc (N.early p t o)) q) - t ≤ 86400 → 0 ≤ enc (N.early p t q) ∧ enc (N.early p t q) ≤ enc (N.early o (enc (N.early p t o)) q)) := by
  obtain ⟨v, hv, e, g1, g2, g3⟩ := enc_pos h0 ht hm
  rw [e]
  refine ⟨g2, fun k1 k2 => ?_⟩
  obtain ⟨u, hu, eu, g4, g5, g6⟩ := enc_pos (by omega) g2 k1
  rw [eu] at k2 ⊢
  obtain ⟨x, hx, hle⟩ := h.over hp hv hu (by omega)
  rw [hx]
  have := N.early_good hx ht
  exact ⟨by simp [enc]; omega, by simp [enc]; omega⟩

theorem endOf_way {S : List Leg} {p t : Int} {w : List (Leg × Int)} {q b : Int} (h : Rway S p t w q b) : endOf t (w.map st) = b := by
  induction h with
  | nil p t => rfl
  | cons _ _ _ _ ih => rw [List.map_cons]; exact ih
theorem endOf_last : ∀ (l : List (Int × Int × Int)) (t : Int) (x : Int × Int × Int), endOf t (l ++ [x]) = x.2.2
  | [], _, _ => rfl
  | y :: l, t, x => endOf_last l y.2.2 x

/-- Lists of IDs in their order. -/
def ltI : List Int → List Int → Bool
  | [], [] => false
  | [], _ :: _ => true
  | _ :: _, [] => false
  | a :: l, b :: m => if a = b then ltI l m else decide (a < b)
theorem idsLt_map : ∀ l m : List Leg, idsLt l m = ltI (l.map (·.id)) (m.map (·.id))
  | [], [] => rfl
  | [], _ :: _ => rfl
  | _ :: _, [] => rfl
  | a :: l, b :: m => by
    simp only [idsLt, List.map_cons, ltI]
    by_cases e : a.id = b.id
    · rw [if_pos e, if_pos e, idsLt_map l m]
    · rw [if_neg e, if_neg e]

/-- No way is better than the best one. -/
theorem Nw.Valid.least {N : Nw} (h : N.Valid) {p q t e : Int} (hp : p ∈ N.plants) (he : N.early p t q = some e) (l : List (Int × Int × Int)) (hr : rightGo N q p t l = true) :
    e ≤ endOf t l ∧ (endOf t l = e → (N.way p q t e).length ≤ l.length ∧ (l.length = (N.way p q t e).length → ltI (l.map (·.1)) (((N.way p q t e).map st).map (·.1)) = false)) := by
  obtain ⟨hb, _, _⟩ := h.best hp he
  obtain ⟨w, hw, rfl⟩ := right_way h l p t hr
  obtain ⟨b, hg, hle⟩ := hw.toG t (Int.le_refl _)
  have hwait := hb.wait
  have h1 : e ≤ endOf t (w.map st) := by
    by_cases hbt : b ≤ t + 86400
    · have := hb.early _ _ hg hbt; omega
    · omega
  refine ⟨h1, fun heq => ?_⟩
  have hbe : b = e := by have := hb.early _ _ hg (by omega); omega
  subst hbe
  have h2 := hb.few _ hg
  refine ⟨by simpa using h2, fun hlen => ?_⟩
  have h3 := hb.least _ hg (by simpa using hlen)
  rw [idsLt_map] at h3
  rw [List.map_map, List.map_map]
  rw [List.map_map, List.map_map] at h3
  exact h3
theorem Nw.Valid.none_far {N : Nw} (h : N.Valid) {p q t : Int} (hp : p ∈ N.plants) (he : N.early p t q = none) (l : List (Int × Int × Int)) (hr : rightGo N q p t l = true) : 86400 < endOf t l - t := by
  obtain ⟨w, hw, rfl⟩ := right_way h l p t hr
  obtain ⟨b, hg, hle⟩ := hw.toG t (Int.le_refl _)
  by_cases hbt : b ≤ t + 86400
  · obtain ⟨v, hv, _⟩ := h.early_complete hp hg hbt
    rw [he] at hv; cases hv
  · omega
/-- What the best way is. -/
theorem Nw.Valid.way_facts {N : Nw} (h : N.Valid) {p q t e : Int} (hp : p ∈ N.plants) (he : N.early p t q = some e) :
    rightGo N q p t ((N.way p q t e).map st) = true ∧ endOf t ((N.way p q t e).map st) = e ∧ e ≤ t + 86400 ∧ (p :: (N.way p q t e).map (·.1.dst)).Nodup ∧ (∀ x ∈ N.way p q t e, x.1 ∈ N.legs) ∧ (N.way p q t e).length ≤ N.plants.length := by
  obtain ⟨hb, h1, h2⟩ := h.best hp he
  refine ⟨hb.way.right h, endOf_way hb.way, hb.wait, hb.free, fun x hx => ?_, by omega⟩
  exact Nw.memS.1 (hb.gway.mem x.1 (List.mem_map.2 ⟨x, hx, rfl⟩))
theorem Rway.top {S : List Leg} {p t : Int} {w : List (Leg × Int)} {q b : Int} (h : Rway S p t w q b) (ht : t ≤ 1051898399) : b ≤ 1051898399 := by
  induction h with
  | nil p t => exact ht
  | cons _ h2 _ _ ih => have := h2.bounds; exact ih (by omega)
theorem Rway.deps {S : List Leg} {p t : Int} {w : List (Leg × Int)} {q b : Int} (h : Rway S p t w q b) : ∀ x ∈ w, Dep x.1 x.2 := by
  induction h with
  | nil p t => intro x hx; cases hx
  | cons _ h2 _ _ ih => intro x hx; rcases List.mem_cons.1 hx with rfl | hx; exact h2; exact ih x hx
/-- The end of right stops is a time that there is. -/
theorem right_top {N : Nw} (h : N.Valid) {q : Int} (l : List (Int × Int × Int)) (p t : Int) (ht : t ≤ 1051898399) (hr : rightGo N q p t l = true) : t ≤ endOf t l ∧ endOf t l ≤ 1051898399 := by
  obtain ⟨w, hw, rfl⟩ := right_way h l p t hr
  rw [endOf_way hw] at hw ⊢
  exact ⟨hw.le, hw.top ht⟩
/-- The stops of the best way. -/
theorem Nw.Valid.way_at {N : Nw} (h : N.Valid) {p q t e : Int} (hp : p ∈ N.plants) (he : N.early p t q = some e) (x : Leg × Int) (hx : x ∈ N.way p q t e) : x.1 ∈ N.legs ∧ 0 ≤ x.2 + x.1.mins ∧ x.2 + x.1.mins ≤ 1051898399 := by
  obtain ⟨hb, _, _⟩ := h.best hp he
  have hd := hb.way.deps x hx
  have h1 := hd.bounds
  have h2 := (x.1.right_iff).1 hd.right
  exact ⟨Nw.memS.1 (hb.gway.mem x.1 (List.mem_map.2 ⟨x, hx, rfl⟩)), by omega, by omega⟩
/-! ### the document's own times: rows with any limit, over the legs in any order -/
def lim (S : List Leg) (L p t : Int) (k : Nat) : Row := rows (S.map (fedge L)) (start p t) k

theorem lim_sound {S : List Leg} {L p t : Int} {k : Nat} {q v : Int} (h : lim S L p t k q = some v) : ∃ ls : List Leg, ls.length ≤ k ∧ Gway S p t ls q v ∧ (ls = [] ∨ v ≤ L) := by
  obtain ⟨es, hk, hw⟩ := rows_sound h
  obtain ⟨ls, rfl, hg, hL⟩ := Gway.of_walks hw
  refine ⟨ls, by simpa using hk, hg, ?_⟩
  rcases hL with hL | hL
  · exact .inl (by simpa using hL)
  · exact .inr hL
theorem lim_complete {S : List Leg} {L p t : Int} {ls : List Leg} {q b : Int} (h : Gway S p t ls q b) (hb : b ≤ L) {k : Nat} (hk : ls.length ≤ k) : ∃ v, lim S L p t k q = some v ∧ v ≤ b :=
  rows_complete (fedges_ok S _) (h.walks hb) (by simpa using hk)
theorem lim_le {S : List Leg} {L p t : Int} {k : Nat} {q v : Int} (ht : t ≤ L) (h : lim S L p t k q = some v) : t ≤ v ∧ v ≤ L := by
  obtain ⟨ls, _, hg, hL⟩ := lim_sound h
  have := hg.le
  rcases hL with rfl | hL
  · obtain ⟨_, rfl⟩ := hg.inv; omega
  · omega
theorem lim_key {S T : List Leg} (h : ∀ l ∈ S, l ∈ T) {L p t : Int} (ht : t ≤ L) {k : Nat} {q v : Int} (hv : lim S L p t k q = some v) : ∃ u, lim T L p t k q = some u ∧ u ≤ v := by
  obtain ⟨ls, hk, hg, hL⟩ := lim_sound hv
  exact lim_complete (hg.more h) (lim_le ht hv).2 hk
theorem lim_congr {S T : List Leg} (h : ∀ l, l ∈ S ↔ l ∈ T) {L p t : Int} (ht : t ≤ L) (k : Nat) : lim S L p t k = lim T L p t k := by
  funext q
  cases hs : lim S L p t k q with
  | none =>
    cases hs' : lim T L p t k q with
    | none => rfl
    | some v =>
      obtain ⟨u, hu, _⟩ := lim_key (fun l hl => (h l).2 hl) ht hs'
      rw [hs] at hu; cases hu
  | some v =>
    obtain ⟨u, hu, h1⟩ := lim_key (fun l hl => (h l).1 hl) ht hs
    obtain ⟨u', hu', h2⟩ := lim_key (fun l hl => (h l).2 hl) ht hu
    rw [hs] at hu'; injection hu' with e
    rw [hu]; congr 1; omega
theorem Nw.lim_early (N : Nw) (p t : Int) : lim N.legs (t + 86400) p t N.plants.length = N.early p t :=
  lim_congr (fun _ => Nw.memS.symm) (by omega) _
/-- With as many stops as there are plants whatever can be reached is reached. -/
theorem Nw.Valid.lim_iff {N : Nw} (h : N.Valid) {p q t L : Int} (hp : p ∈ N.plants) (ht : t ≤ L) : (∃ v, lim N.legs L p t N.plants.length q = some v) ↔ ∃ (ls : List Leg) (b : Int), Gway N.S p t ls q b ∧ b ≤ L := by
  constructor
  · rintro ⟨v, hv⟩
    obtain ⟨ls, _, hg, _⟩ := lim_sound hv
    exact ⟨ls, v, hg.more fun l hl => Nw.memS.2 hl, (lim_le ht hv).2⟩
  · rintro ⟨ls, b, hg, hb⟩
    obtain ⟨es, b', hw, hb', hn, hm, _⟩ := (hg.walks hb).free (fedges_ok _ _)
    have hlen := nodup_len _ N.plants hn (fun x hx => by
      rcases List.mem_cons.1 hx with rfl | hx
      · exact hp
      · obtain ⟨e, he, rfl⟩ := List.mem_map.1 hx
        obtain ⟨l, hl, rfl⟩ := List.mem_map.1 (hw.mem e he)
        exact h.dst l (Nw.memS.1 hl))
    obtain ⟨ls', rfl, hg', _⟩ := Gway.of_walks hw
    simp only [List.length_cons, List.length_map] at hlen
    obtain ⟨v, hv, _⟩ := lim_complete (k := N.plants.length) (hg'.more fun l hl => Nw.memS.1 hl) (show b' ≤ L by omega) (by omega)
    exact ⟨v, hv⟩

/-! ### the latest ready time, as the document tells it -/
/-- A ready time with which a leg is taken that comes in time. -/
def Nw.Ready (N : Nw) (p q dl r : Int) (l : Leg) : Prop := l ∈ N.legs ∧ l.src = p ∧ ∃ d, Dep l d ∧ r = d - l.cut ∧ dl - r ≤ 86400 ∧ d + l.mins ≤ dl ∧ ∃ v, lim N.legs dl l.dst (d + l.mins) N.plants.length q = some v
theorem Nw.Valid.ready_le {N : Nw} (h : N.Valid) {p q dl r : Int} {l : Leg} (hq : q ∈ N.plants) (hr : N.Ready p q dl r l) : ∃ v, N.late q dl p = some v ∧ r ≤ -v := by
  obtain ⟨h1, rfl, d, h2, rfl, h3, h4, h5⟩ := hr
  obtain ⟨ls, b, hg, hb⟩ := (h.lim_iff (h.dst l h1) h4).1 h5
  obtain ⟨x, hx, hle⟩ := next_of (r := d - l.cut) h2 (by omega)
  obtain ⟨b', hg', hb'⟩ := hg.mono (x + l.mins) (by omega)
  exact h.late_complete hq (Gway.cons (Nw.memS.2 h1) hx hg') (by omega) (by omega)
theorem Nw.Valid.ready_of {N : Nw} (h : N.Valid) {p q dl v : Int} (hpq : p ≠ q) (hv : N.late q dl p = some v) : ∃ l, N.Ready p q dl (-v) l := by
  obtain ⟨⟨h1, _⟩, hf⟩ := N.late_sound hv
  obtain ⟨ls, b, hg, hb⟩ := hf (-v) (Int.le_refl _)
  cases hg with
  | nil => exact absurd rfl hpq
  | @cons _ d l ls _ _ g1 g2 g3 =>
    obtain ⟨k1, k2, _⟩ := next_some g2
    have hm := Nw.memS.1 g1
    have hle := g3.le
    have hR : N.Ready l.src q dl (d - l.cut) l := ⟨hm, rfl, d, k1, rfl, by omega, by omega, (h.lim_iff (h.dst l hm) (by omega)).2 ⟨ls, b, g3, hb⟩⟩
    have hq : q ∈ N.plants := by
      clear hR hle hf hv hpq
      generalize hx : l.dst = x at g3
      have hxm : x ∈ N.plants := hx ▸ h.dst l hm
      clear hx hb g1 g2 k1 k2 hm
      generalize d + l.mins = t at g3
      induction g3 with
      | nil => exact hxm
      | cons e1 _ _ ih => exact ih (h.dst _ (Nw.memS.1 e1))
    obtain ⟨u, hu, hle'⟩ := h.ready_le hq hR
    rw [hv] at hu; injection hu with hu; subst hu
    have e : d - l.cut = -v := by omega
    rw [e] at hR
    exact ⟨l, hR⟩
/-- The latest ready time is the greatest one with which a leg is taken that comes in time. -/
theorem Nw.Valid.late_max {N : Nw} (h : N.Valid) {p q dl b : Int} (hq : q ∈ N.plants) (hpq : p ≠ q) (h1 : b = -1 ∨ ∃ l, N.Ready p q dl b l) (h2 : ∀ l r, N.Ready p q dl r l → r ≤ b) (hb : -1 ≤ b) : encN (N.late q dl p) = b := by
  cases hv : N.late q dl p with
  | none =>
    rcases h1 with rfl | ⟨l, hl⟩
    · rfl
    · obtain ⟨u, hu, _⟩ := h.ready_le hq hl
      rw [hv] at hu; cases hu
  | some v =>
    obtain ⟨l, hl⟩ := h.ready_of hpq hv
    have g1 := h2 l _ hl
    show -v = b
    rcases h1 with rfl | ⟨l', hl'⟩
    · obtain ⟨_, _, d, k1, k2, _⟩ := hl
      have := k1.bounds
      omega
    · obtain ⟨u, hu, hle⟩ := h.ready_le hq hl'
      rw [hv] at hu; injection hu with hu; subst hu
      omega

/-! ### the best way, as the document tells it -/
/-- A leg with which the rest is possible. -/
def Nw.Fine (N : Nw) (q e : Int) (m : Nat) (p t : Int) (l : Leg) (d : Int) : Prop := l ∈ N.legs ∧ l.src = p ∧ next l t = some d ∧ d + l.mins ≤ e ∧ ∃ v, lim N.legs e l.dst (d + l.mins) m q = some v
theorem Nw.fine_iff {N : Nw} {q e : Int} {m : Nat} {p t : Int} {l : Leg} {d : Int} (ht : e - 86400 ≤ t) : N.Fine q e m p t l d ↔ l ∈ N.S ∧ l.src = p ∧ next l t = some d ∧ ∃ v, bwd N.S q e m l.dst = some v ∧ d + l.mins ≤ -v := by
  constructor
  · rintro ⟨h1, h2, h3, h4, v, hv⟩
    refine ⟨Nw.memS.2 h1, h2, h3, ?_⟩
    obtain ⟨ls, hk, hg, _⟩ := lim_sound hv
    have hn := next_lt h3
    exact bwd_complete (hg.more fun l hl => Nw.memS.2 hl) (lim_le h4 hv).2 (by omega) m hk
  · rintro ⟨h1, h2, h3, v, hv, hle⟩
    obtain ⟨_, hf⟩ := bwd_sound m hv
    obtain ⟨ls, b, hk, hg, hb⟩ := hf _ hle
    have := hg.le
    obtain ⟨u, hu, _⟩ := lim_complete (hg.more fun l hl => Nw.memS.1 hl) hb hk
    exact ⟨Nw.memS.1 h1, h2, h3, by omega, u, hu⟩
/-- The lowest leg with which the rest is possible. -/
theorem Nw.Valid.pick_least {N : Nw} (h : N.Valid) {q e : Int} {m : Nat} {p t : Int} {l : Leg} {d : Int} (ht : e - 86400 ≤ t) (h1 : N.Fine q e m p t l d) (h2 : ∀ l' d', N.Fine q e m p t l' d' → l.id ≤ l'.id) : pick N.S p t (bwd N.S q e m) = some (l, d) := by
  obtain ⟨g1, g2, g3, v, g4, g5⟩ := (Nw.fine_iff ht).1 h1
  obtain ⟨l', d', hp, hle⟩ := pick_of g1 g2 g3 g4 g5 h.good.sorted
  obtain ⟨k1, k2, k3, k4⟩ := pick_some hp
  have := h2 l' d' ((Nw.fine_iff ht).2 ⟨k1, k2, k3, k4⟩)
  have e1 := h.good.ids _ g1 _ k1 (by omega)
  subst e1
  rw [g3] at k3; injection k3 with k3; subst k3
  exact hp
theorem Nw.Valid.pick_none {N : Nw} {q e : Int} {m : Nat} {p t : Int} (ht : e - 86400 ≤ t) (h2 : ∀ l' d', ¬ N.Fine q e m p t l' d') : pick N.S p t (bwd N.S q e m) = none := by
  cases hp : pick N.S p t (bwd N.S q e m) with
  | none => rfl
  | some x =>
    obtain ⟨l, d⟩ := x
    exact absurd ((Nw.fine_iff ht).2 (pick_some hp)) (h2 l d)
/-- How many stops. -/
theorem Nw.Valid.stops_iff {N : Nw} (h : N.Valid) {p q t e : Int} (hp : p ∈ N.plants) (he : N.early p t q = some e) (k : Nat) : lim N.legs e p t k q = some e ↔ fwd N.S p t k q = some e := by
  obtain ⟨_, _, hw0, hL, hte⟩ := N.early_sound he
  have hmin : ∀ (ls : List Leg) (b : Int), Gway N.S p t ls q b → b ≤ t + 86400 → e ≤ b := fun ls b hw hb => by
    obtain ⟨v, hv, hle⟩ := h.early_complete hp hw hb
    rw [he] at hv; injection hv with hv; omega
  constructor
  · intro hv
    obtain ⟨ls, hk, hg, _⟩ := lim_sound hv
    obtain ⟨u, hu, hle⟩ := fwd_complete (hg.more fun l hl => Nw.memS.2 hl) hL hk
    obtain ⟨ls', _, hg', hb'⟩ := fwd_sound hu
    have := hmin _ _ hg' hb'
    rw [hu]; congr 1; omega
  · intro hv
    obtain ⟨ls, hk, hg, _⟩ := fwd_sound hv
    obtain ⟨u, hu, hle⟩ := lim_complete (hg.more fun l hl => Nw.memS.1 hl) (Int.le_refl e) hk
    obtain ⟨ls', _, hg', _⟩ := lim_sound hu
    have := hmin _ _ (hg'.more fun l hl => Nw.memS.2 hl) (by omega)
    rw [hu]; congr 1; omega
end Go.Proofs.Ytdpadeklociinaa.Net
