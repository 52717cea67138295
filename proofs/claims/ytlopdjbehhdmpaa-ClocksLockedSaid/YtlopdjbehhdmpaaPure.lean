/- Plain law for clocks: the vector clocks that the program reckons count the events that are ahead by links. No program in sight. -/
namespace Go.Proofs.Ytlopdjbehhdmpaa

/-- An event: client, kind, object, number. -/
structure Ev where
  c : Int
  k : Int
  o : Int
  n : Int

def oneE (x y : Ev) : Bool := x.o == y.o && x.n == y.n

/-- No store of E j's thing strictly between i and m. -/
def noSt (E : Nat → Ev) (j i : Nat) : Nat → Bool
  | 0 => true
  | m + 1 => noSt E j i m && !(decide (i < m) && oneE (E m) (E j) && (E m).k == 6)

def linkedE (E : Nat → Ev) (i j : Nat) : Bool :=
  if (E i).c == (E j).c then true
  else if !oneE (E i) (E j) then false
  else if (E i).k == 2 then (E j).k == 1 || (E j).k == 3
  else if (E i).k == 4 then (E j).k == 1
  else if ((E i).k == 6 || (E i).k == 7) && ((E j).k == 5 || (E j).k == 7) then noSt E j i j
  else false

/-- Ahead: by links. -/
inductive Ah (E : Nat → Ev) : Nat → Nat → Prop
  | link {i j} : i < j → linkedE E i j = true → Ah E i j
  | step {x i j} : Ah E x i → i < j → linkedE E i j = true → Ah E x j

theorem Ah.lt {E : Nat → Ev} {i j : Nat} (h : Ah E i j) : i < j := by
  induction h with
  | link h _ => exact h
  | step _ h _ ih => omega

theorem Ah.cases' {E : Nat → Ev} {x j : Nat} : Ah E x j ↔ ∃ i, i < j ∧ linkedE E i j = true ∧ (x = i ∨ Ah E x i) := by
  constructor
  · intro h
    cases h with
    | link h1 h2 => exact ⟨x, h1, h2, .inl rfl⟩
    | step h1 h2 h3 => exact ⟨_, h2, h3, .inr h1⟩
  · rintro ⟨i, h1, h2, rfl | h3⟩
    · exact .link h1 h2
    · exact .step h3 h1 h2

theorem Ah.trans {E : Nat → Ev} {i j k : Nat} (h : Ah E i j) (h' : Ah E j k) : Ah E i k := by
  induction h' with
  | link h1 h2 => exact .step h h1 h2
  | step _ h2 h3 ih => exact .step ih h2 h3

/-- In or ahead. -/
def Se (E : Nat → Ev) (j x : Nat) : Prop := x = j ∨ Ah E x j

/-! ### Counts -/
def tot (E : Nat → Ev) (k : Nat) : Nat → Nat
  | 0 => 0
  | n + 1 => tot E k n + if (E n).c = (k : Int) then 1 else 0

def rk (E : Nat → Ev) (x : Nat) : Nat := tot E (E x).c.toNat x + 1

theorem tot_mono (E : Nat → Ev) (k : Nat) {a b : Nat} (h : a ≤ b) : tot E k a ≤ tot E k b := by
  induction b with
  | zero => have : a = 0 := by omega
            subst this; exact Nat.le_refl _
  | succ b ih =>
    by_cases hb : a = b + 1
    · subst hb; exact Nat.le_refl _
    · have := ih (by omega)
      simp only [tot]; omega

theorem tot_lt (E : Nat → Ev) (k : Nat) {a b : Nat} (h : a < b) (hk : (E a).c = (k : Int)) : tot E k a + 1 ≤ tot E k b := by
  have := tot_mono E k (show a + 1 ≤ b by omega)
  simp only [tot, hk, if_true] at this
  exact this

theorem tot_ex (E : Nat → Ev) (k : Nat) : ∀ n, 1 ≤ tot E k n → ∃ x, x < n ∧ (E x).c = (k : Int) ∧ tot E k x + 1 = tot E k n
  | 0, h => by simp [tot] at h
  | n + 1, h => by
    by_cases hk : (E n).c = (k : Int)
    · exact ⟨n, by omega, hk, by simp [tot, hk]⟩
    · simp only [tot, hk, if_false, Nat.add_zero] at h ⊢
      obtain ⟨x, h1, h2, h3⟩ := tot_ex E k n h
      exact ⟨x, by omega, h2, h3⟩

theorem tot_le (E : Nat → Ev) (k : Nat) : ∀ n, tot E k n ≤ n
  | 0 => Nat.le_refl _
  | n + 1 => by have := tot_le E k n; simp only [tot]; split <;> omega

/-- The clock f tells the set A among the events below N. -/
def Ch (E : Nat → Ev) (N : Nat) (A : Nat → Prop) (f : Nat → Nat) : Prop :=
  ∀ k, f k ≤ tot E k N ∧ ∀ x, x < N → (E x).c = (k : Int) → (A x ↔ tot E k x + 1 ≤ f k)

theorem Ch.ext {E : Nat → Ev} {N : Nat} {A B : Nat → Prop} {f : Nat → Nat} (h : Ch E N A f) (hAB : ∀ x, x < N → (A x ↔ B x)) : Ch E N B f :=
  fun k => ⟨(h k).1, fun x hx hk => (hAB x hx).symm.trans ((h k).2 x hx hk)⟩

theorem Ch.uniq {E : Nat → Ev} {N : Nat} {A : Nat → Prop} {f g : Nat → Nat} (h : Ch E N A f) (h' : Ch E N A g) : f = g := by
  funext k
  have key : ∀ {f g : Nat → Nat}, Ch E N A f → Ch E N A g → f k ≤ g k := by
    intro f g h h'
    rcases Nat.lt_or_ge (g k) (f k) with hlt | hge
    · exfalso
      have h1 : 1 ≤ tot E k N := by have := (h k).1; omega
      -- the event of rank f k
      have : ∀ n, f k ≤ tot E k n → 1 ≤ f k → ∃ x, x < n ∧ (E x).c = (k : Int) ∧ tot E k x + 1 = f k := by
        intro n
        induction n with
        | zero => intro h0 h1; simp [tot] at h0; omega
        | succ n ih =>
          intro h0 h1
          by_cases hn : f k ≤ tot E k n
          · obtain ⟨x, a, b, c⟩ := ih hn h1; exact ⟨x, by omega, b, c⟩
          · by_cases hk : (E n).c = (k : Int)
            · simp only [tot, hk, if_true] at h0
              exact ⟨n, by omega, hk, by omega⟩
            · simp only [tot, hk, if_false] at h0; omega
      obtain ⟨x, hx, hk, he⟩ := this N (h k).1 (by omega)
      have a := ((h k).2 x hx hk).2 (by omega)
      have b := ((h' k).2 x hx hk).1 a
      omega
    · exact hge
  exact Nat.le_antisymm (key h h') (key h' h)

def jn (a b : Nat → Nat) : Nat → Nat := fun k => max (a k) (b k)

theorem Ch.join {E : Nat → Ev} {N : Nat} {A B : Nat → Prop} {f g : Nat → Nat} (h : Ch E N A f) (h' : Ch E N B g) : Ch E N (fun x => A x ∨ B x) (jn f g) := by
  intro k
  have a := (h k).1; have b := (h' k).1
  refine ⟨by simp only [jn]; omega, fun x hx hk => ?_⟩
  have a2 := (h k).2 x hx hk; have b2 := (h' k).2 x hx hk
  show A x ∨ B x ↔ _
  rw [a2, b2]
  simp only [jn]; omega

theorem Ch.grow {E : Nat → Ev} {N : Nat} {A : Nat → Prop} {f : Nat → Nat} (h : Ch E N A f) (hA : ¬ A N) : Ch E (N + 1) A f := by
  intro k
  have a := (h k).1
  refine ⟨Nat.le_trans a (tot_mono E k (by omega)), fun x hx hk => ?_⟩
  by_cases hxN : x = N
  · subst hxN
    constructor
    · intro h; exact absurd h hA
    · intro h; omega
  · exact (h k).2 x (by omega) hk

theorem Ch.none (E : Nat → Ev) (N : Nat) (A : Nat → Prop) (hA : ∀ x, x < N → ¬ A x) : Ch E N A (fun _ => 0) :=
  fun _ => ⟨Nat.zero_le _, fun x hx _ => ⟨fun h => absurd h (hA x hx), fun h => by simp only at h; omega⟩⟩

/-! ### The program's states -/
structure St where
  now : Nat → Nat → Nat
  un : Int → Int → Nat → Nat
  sh : Int → Int → Nat → Nat
  sd : Int → Int → Nat → Nat

def up {α : Type} (f : Nat → α) (i : Nat) (v : α) : Nat → α := fun k => if k = i then v else f k
def up2 {α : Type} (f : Int → Int → α) (o n : Int) (v : α) : Int → Int → α := fun o' n' => if o' = o ∧ n' = n then v else f o' n'

def tick (s : St) (e : Ev) : Nat → Nat := up (s.now e.c.toNat) e.c.toNat (s.now e.c.toNat e.c.toNat + 1)

def clkOf (s : St) (e : Ev) : Nat → Nat :=
  if e.k = 1 then jn (jn (tick s e) (s.un e.o e.n)) (s.sh e.o e.n)
  else if e.k = 3 then jn (tick s e) (s.un e.o e.n)
  else if e.k = 5 ∨ e.k = 7 then jn (tick s e) (s.sd e.o e.n)
  else tick s e

def next (s : St) (e : Ev) : St where
  now := up s.now e.c.toNat (clkOf s e)
  un := if e.k = 2 then up2 s.un e.o e.n (jn (s.un e.o e.n) (clkOf s e)) else s.un
  sh := if e.k = 4 then up2 s.sh e.o e.n (jn (s.sh e.o e.n) (clkOf s e)) else s.sh
  sd := if e.k = 6 ∨ e.k = 7 then up2 s.sd e.o e.n (clkOf s e) else s.sd

def st0 : St := ⟨fun _ _ => 0, fun _ _ _ => 0, fun _ _ _ => 0, fun _ _ _ => 0⟩

def stAt (E : Nat → Ev) : Nat → St
  | 0 => st0
  | j + 1 => next (stAt E j) (E j)

def clk (E : Nat → Ev) (j : Nat) : Nat → Nat := clkOf (stAt E j) (E j)

def onT (e : Ev) (o n : Int) : Prop := e.o = o ∧ e.n = n

/-- What each clock of the state tells. -/
structure Inv (E : Nat → Ev) (j : Nat) (s : St) : Prop where
  now : ∀ c : Nat, Ch E j (fun x => ∃ y, y < j ∧ (E y).c = (c : Int) ∧ Se E y x) (s.now c)
  un : ∀ o n, Ch E j (fun x => ∃ y, y < j ∧ (E y).k = 2 ∧ onT (E y) o n ∧ Se E y x) (s.un o n)
  sh : ∀ o n, Ch E j (fun x => ∃ y, y < j ∧ (E y).k = 4 ∧ onT (E y) o n ∧ Se E y x) (s.sh o n)
  sd : ∀ o n, Ch E j (fun x => ∃ y, y < j ∧ ((E y).k = 6 ∨ (E y).k = 7) ∧ onT (E y) o n ∧ (∀ m, y < m → m < j → ¬ ((E m).k = 6 ∧ onT (E m) o n)) ∧ Se E y x) (s.sd o n)

theorem noSt_iff (E : Nat → Ev) (j i : Nat) : ∀ m, noSt E j i m = true ↔ ∀ x, i < x → x < m → ¬ ((E x).k = 6 ∧ onT (E x) (E j).o (E j).n)
  | 0 => by simp [noSt]
  | m + 1 => by
    simp only [noSt, Bool.and_eq_true, Bool.not_eq_true', noSt_iff E j i m]
    constructor
    · rintro ⟨h1, h2⟩ x hx hx'
      by_cases hm : x = m
      · subst hm
        rintro ⟨h3, h4, h5⟩
        simp [oneE, h3, h4, h5, hx] at h2
      · exact h1 x hx (by omega)
    · intro h
      refine ⟨fun x hx hx' => h x hx (by omega), ?_⟩
      by_cases him : i < m
      · have := h m him (by omega)
        simp only [onT] at this
        simp only [oneE, Bool.and_eq_false_iff]
        by_cases h6 : (E m).k = 6
        · left; right
          by_cases h7 : (E m).o = (E j).o
          · right; simp; intro h8; exact this ⟨h6, h7, h8⟩
          · left; simpa using h7
        · right; simpa using h6
      · simp [him]

theorem se_own (E : Nat → Ev) {i j : Nat} (h : i < j) (hc : (E i).c = (E j).c) : Ah E i j := .link h (by simp [linkedE, hc])

/-- Which events are ahead of j, by the kind of j. -/
theorem ah_iff (E : Nat → Ev) (j x : Nat) : Ah E x j ↔
    (∃ y, y < j ∧ (E y).c = (E j).c ∧ Se E y x) ∨
    (((E j).k = 1 ∨ (E j).k = 3) ∧ ∃ y, y < j ∧ (E y).k = 2 ∧ onT (E y) (E j).o (E j).n ∧ Se E y x) ∨
    ((E j).k = 1 ∧ ∃ y, y < j ∧ (E y).k = 4 ∧ onT (E y) (E j).o (E j).n ∧ Se E y x) ∨
    (((E j).k = 5 ∨ (E j).k = 7) ∧ ∃ y, y < j ∧ ((E y).k = 6 ∨ (E y).k = 7) ∧ onT (E y) (E j).o (E j).n ∧ (∀ m, y < m → m < j → ¬ ((E m).k = 6 ∧ onT (E m) (E j).o (E j).n)) ∧ Se E y x) := by
  rw [Ah.cases']
  constructor
  · rintro ⟨i, hi, hl, hx⟩
    have hx' : Se E i x := hx
    by_cases hc : (E i).c = (E j).c
    · exact .inl ⟨i, hi, hc, hx'⟩
    · right
      simp only [linkedE, beq_iff_eq, hc, if_false] at hl
      by_cases ho : oneE (E i) (E j) = true
      · have hon : onT (E i) (E j).o (E j).n := by simpa [oneE, onT] using ho
        simp only [ho, Bool.not_true, Bool.false_eq_true, if_false] at hl
        by_cases h2 : (E i).k = 2
        · simp only [h2, if_true, Bool.or_eq_true, beq_iff_eq] at hl
          exact .inl ⟨hl, i, hi, h2, hon, hx'⟩
        · simp only [h2, if_false] at hl
          by_cases h4 : (E i).k = 4
          · simp only [h4, if_true, beq_iff_eq] at hl
            exact .inr (.inl ⟨hl, i, hi, h4, hon, hx'⟩)
          · simp only [h4, if_false] at hl
            split at hl
            · rename_i h6
              simp only [Bool.and_eq_true, Bool.or_eq_true, beq_iff_eq] at h6
              exact .inr (.inr ⟨h6.2, i, hi, h6.1, hon, (noSt_iff E j i j).1 hl, hx'⟩)
            · cases hl
      · simp [ho] at hl
  · have mk : ∀ y, y < j → linkedE E y j = true → Se E y x → ∃ i, i < j ∧ linkedE E i j = true ∧ (x = i ∨ Ah E x i) := fun y a b c => ⟨y, a, b, c⟩
    rintro (⟨y, hy, hc, hx⟩ | ⟨hk, y, hy, h2, hon, hx⟩ | ⟨hk, y, hy, h2, hon, hx⟩ | ⟨hk, y, hy, h2, hon, hno, hx⟩)
    · exact mk y hy (by simp [linkedE, hc]) hx
    all_goals
      refine mk y hy ?_ hx
      have ho : oneE (E y) (E j) = true := by simpa [oneE, onT] using hon
      by_cases hc : (E y).c = (E j).c
      · simp [linkedE, hc]
      simp only [linkedE, beq_iff_eq, hc, if_false, ho, Bool.not_true, Bool.false_eq_true]
    · simp [h2, hk]
    · simp [h2, hk]
    · have := (noSt_iff E j y j).2 hno
      rcases h2 with h2 | h2 <;> rcases hk with hk | hk <;> simp [h2, hk, this]

theorem se_lt {E : Nat → Ev} {y x : Nat} (h : Se E y x) : x ≤ y := by
  rcases h with rfl | h
  · exact Nat.le_refl _
  · exact Nat.le_of_lt h.lt

/-- The clock of event j tells who is in or ahead of it. -/
theorem clk_step (E : Nat → Ev) (j : Nat) (s : St) (h : Inv E j s) (hc : 0 ≤ (E j).c) : Ch E (j + 1) (Se E j) (clkOf s (E j)) := by
  obtain ⟨c, hcc⟩ := Int.eq_ofNat_of_zero_le hc
  have hto : (E j).c.toNat = c := by omega
  have hlt : ∀ (Q : Nat → Prop), ¬ (∃ y, y < j ∧ Q y ∧ Se E y j) := by
    rintro Q ⟨y, hy, _, hx⟩
    have := se_lt hx; omega
  have hnow := h.now c
  -- own events
  have htick : Ch E (j + 1) (fun x => x = j ∨ ∃ y, y < j ∧ (E y).c = (c : Int) ∧ Se E y x) (tick s (E j)) := by
    have hown : s.now c c = tot E c j := by
      have h1 := (hnow c).1
      rcases Nat.lt_or_ge (s.now c c) (tot E c j) with hlt' | hge
      · obtain ⟨x, hx, hk, he⟩ := tot_ex E c j (by omega)
        have := ((hnow c).2 x hx hk).1 ⟨x, hx, hk, .inl rfl⟩
        omega
      · omega
    intro k
    simp only [tick, hto, up]
    by_cases hkc : k = c
    · subst hkc
      simp only [if_true, hown]
      refine ⟨by simp [tot, hcc], fun x hx hk => ?_⟩
      constructor
      · intro _
        have := tot_mono E k (show x ≤ j by omega)
        omega
      · intro _
        by_cases hxj : x = j
        · exact .inl hxj
        · exact .inr ⟨x, by omega, hk, .inl rfl⟩
    · simp only [hkc, if_false]
      refine ⟨Nat.le_trans (hnow k).1 (tot_mono E k (by omega)), fun x hx hk => ?_⟩
      by_cases hxj : x = j
      · subst hxj
        exfalso; omega
      · rw [← (hnow k).2 x (by omega) hk]
        constructor
        · rintro (h | h)
          · exact absurd h hxj
          · exact h
        · exact .inr
  have gr : ∀ {A : Nat → Prop} {f : Nat → Nat}, Ch E j A f → ¬ A j → Ch E (j + 1) A f := fun h hA => h.grow hA
  have hun := gr (h.un (E j).o (E j).n) (by rintro ⟨y, hy, _, _, hx⟩; have := se_lt hx; omega)
  have hsh := gr (h.sh (E j).o (E j).n) (by rintro ⟨y, hy, _, _, hx⟩; have := se_lt hx; omega)
  have hsd := gr (h.sd (E j).o (E j).n) (by rintro ⟨y, hy, _, _, _, hx⟩; have := se_lt hx; omega)
  have fin : ∀ {A : Nat → Prop} {f : Nat → Nat}, Ch E (j + 1) A f → (∀ x, A x ↔ Se E j x) → Ch E (j + 1) (Se E j) f := fun h hA => h.ext (fun x _ => hA x)
  unfold clkOf
  by_cases h1 : (E j).k = 1
  · simp only [h1, if_true]
    refine fin ((htick.join hun).join hsh) (fun x => ?_)
    simp only [Se, ah_iff E j x, h1, hcc]
    simp
    constructor
    · rintro (((h | h) | h) | h)
      · exact .inl h
      · exact .inr (.inl h)
      · exact .inr (.inr (.inl h))
      · exact .inr (.inr (.inr h))
    · rintro (h | h | h | h)
      · exact .inl (.inl (.inl h))
      · exact .inl (.inl (.inr h))
      · exact .inl (.inr h)
      · exact .inr h
  · simp only [h1, if_false]
    by_cases h3 : (E j).k = 3
    · simp only [h3, if_true]
      refine fin (htick.join hun) (fun x => ?_)
      simp only [Se, ah_iff E j x, h3, hcc]
      simp
      constructor
      · rintro ((h | h) | h)
        · exact .inl h
        · exact .inr (.inl h)
        · exact .inr (.inr h)
      · rintro (h | h | h)
        · exact .inl (.inl h)
        · exact .inl (.inr h)
        · exact .inr h
    · simp only [h3, if_false]
      by_cases h5 : (E j).k = 5 ∨ (E j).k = 7
      · simp only [h5, if_true]
        refine fin (htick.join hsd) (fun x => ?_)
        simp only [Se, ah_iff E j x, h1, h3, h5, hcc, false_or, false_and, true_and]
        constructor
        · rintro ((h | h) | h)
          · exact .inl h
          · exact .inr (.inl h)
          · exact .inr (.inr h)
        · rintro (h | h | h)
          · exact .inl (.inl h)
          · exact .inl (.inr h)
          · exact .inr h
      · simp only [h5, if_false]
        refine fin htick (fun x => ?_)
        simp only [Se, ah_iff E j x, h1, h3, h5, hcc, false_and, or_false]

theorem inv_step (E : Nat → Ev) (j : Nat) (s : St) (h : Inv E j s) (hc : 0 ≤ (E j).c) : Inv E (j + 1) (next s (E j)) := by
  have hclk := clk_step E j s h hc
  obtain ⟨c, hcc⟩ := Int.eq_ofNat_of_zero_le hc
  have hto : (E j).c.toNat = c := by omega
  have no : ∀ {y : Nat}, y < j → ¬ Se E y j := fun hy hx => by have := se_lt hx; omega
  constructor
  · intro c'
    simp only [next, hto, up]
    by_cases hcc' : c' = c
    · subst hcc'
      simp only [if_true]
      refine hclk.ext (fun x _ => ?_)
      constructor
      · intro hx; exact ⟨j, by omega, hcc, hx⟩
      · rintro ⟨y, hy, hk, hx⟩
        by_cases hyj : y = j
        · subst hyj; exact hx
        · have : Ah E y j := se_own E (by omega) (by rw [hk, hcc])
          rcases hx with rfl | hx
          · exact .inr this
          · exact .inr (hx.trans this)
    · simp only [hcc', if_false]
      refine ((h.now c').grow (by rintro ⟨y, hy, _, hx⟩; exact no hy hx)).ext (fun x _ => ?_)
      constructor
      · rintro ⟨y, hy, r⟩; exact ⟨y, by omega, r⟩
      · rintro ⟨y, hy, hk, r⟩
        refine ⟨y, ?_, hk, r⟩
        by_cases hyj : y = j
        · subst hyj; exfalso; omega
        · omega
  · intro o n
    have g := (h.un o n).grow (by rintro ⟨y, hy, _, _, hx⟩; exact no hy hx)
    simp only [next]
    by_cases h2 : (E j).k = 2
    · simp only [h2, if_true, up2]
      by_cases hon : o = (E j).o ∧ n = (E j).n
      · simp only [hon, and_self, if_true]
        obtain ⟨rfl, rfl⟩ := hon
        refine (g.join hclk).ext (fun x _ => ?_)
        constructor
        · rintro (⟨y, hy, r⟩ | hx)
          · exact ⟨y, by omega, r⟩
          · exact ⟨j, by omega, h2, ⟨rfl, rfl⟩, hx⟩
        · rintro ⟨y, hy, hk, r, hx⟩
          by_cases hyj : y = j
          · subst hyj; exact .inr hx
          · exact .inl ⟨y, by omega, hk, r, hx⟩
      · simp only [hon, if_false]
        refine g.ext (fun x _ => ?_)
        constructor
        · rintro ⟨y, hy, r⟩; exact ⟨y, by omega, r⟩
        · rintro ⟨y, hy, hk, r, hx⟩
          refine ⟨y, ?_, hk, r, hx⟩
          by_cases hyj : y = j
          · subst hyj; exact absurd ⟨r.1.symm, r.2.symm⟩ hon
          · omega
    · simp only [h2, if_false]
      refine g.ext (fun x _ => ?_)
      constructor
      · rintro ⟨y, hy, r⟩; exact ⟨y, by omega, r⟩
      · rintro ⟨y, hy, hk, r⟩
        refine ⟨y, ?_, hk, r⟩
        by_cases hyj : y = j
        · subst hyj; exact absurd hk h2
        · omega
  · intro o n
    have g := (h.sh o n).grow (by rintro ⟨y, hy, _, _, hx⟩; exact no hy hx)
    simp only [next]
    by_cases h2 : (E j).k = 4
    · simp only [h2, if_true, up2]
      by_cases hon : o = (E j).o ∧ n = (E j).n
      · simp only [hon, and_self, if_true]
        obtain ⟨rfl, rfl⟩ := hon
        refine (g.join hclk).ext (fun x _ => ?_)
        constructor
        · rintro (⟨y, hy, r⟩ | hx)
          · exact ⟨y, by omega, r⟩
          · exact ⟨j, by omega, h2, ⟨rfl, rfl⟩, hx⟩
        · rintro ⟨y, hy, hk, r, hx⟩
          by_cases hyj : y = j
          · subst hyj; exact .inr hx
          · exact .inl ⟨y, by omega, hk, r, hx⟩
      · simp only [hon, if_false]
        refine g.ext (fun x _ => ?_)
        constructor
        · rintro ⟨y, hy, r⟩; exact ⟨y, by omega, r⟩
        · rintro ⟨y, hy, hk, r, hx⟩
          refine ⟨y, ?_, hk, r, hx⟩
          by_cases hyj : y = j
          · subst hyj; exact absurd ⟨r.1.symm, r.2.symm⟩ hon
          · omega
    · simp only [h2, if_false]
      refine g.ext (fun x _ => ?_)
      constructor
      · rintro ⟨y, hy, r⟩; exact ⟨y, by omega, r⟩
      · rintro ⟨y, hy, hk, r⟩
        refine ⟨y, ?_, hk, r⟩
        by_cases hyj : y = j
        · subst hyj; exact absurd hk h2
        · omega
  · intro o n
    have g := (h.sd o n).grow (by rintro ⟨y, hy, _, _, _, hx⟩; exact no hy hx)
    simp only [next]
    by_cases h2 : (E j).k = 6 ∨ (E j).k = 7
    · simp only [h2, if_true, up2]
      by_cases hon : o = (E j).o ∧ n = (E j).n
      · simp only [hon, and_self, if_true]
        obtain ⟨rfl, rfl⟩ := hon
        refine hclk.ext (fun x _ => ?_)
        constructor
        · intro hx; exact ⟨j, by omega, h2, ⟨rfl, rfl⟩, fun m a b => by omega, hx⟩
        · rintro ⟨y, hy, hk, r, hno, hx⟩
          by_cases hyj : y = j
          · subst hyj; exact hx
          · -- then j is an add, and y is linked to it
            have h7 : (E j).k = 7 := by
              rcases h2 with h6 | h7
              · exact absurd ⟨h6, rfl, rfl⟩ (hno j (by omega) (by omega))
              · exact h7
            have : Ah E x j := (ah_iff E j x).2 (.inr (.inr (.inr ⟨.inr h7, y, by omega, hk, r, fun m a b => hno m a (by omega), hx⟩)))
            exact .inr this
      · simp only [hon, if_false]
        refine g.ext (fun x _ => ?_)
        constructor
        · rintro ⟨y, hy, hk, r, hno, hx⟩
          refine ⟨y, by omega, hk, r, fun m a b => ?_, hx⟩
          by_cases hmj : m = j
          · subst hmj; rintro ⟨_, a, b⟩; exact hon ⟨a.symm, b.symm⟩
          · exact hno m a (by omega)
        · rintro ⟨y, hy, hk, r, hno, hx⟩
          by_cases hyj : y = j
          · subst hyj; exact absurd ⟨r.1.symm, r.2.symm⟩ hon
          · exact ⟨y, by omega, hk, r, fun m a b => hno m a (by omega), hx⟩
    · simp only [h2, if_false]
      refine g.ext (fun x _ => ?_)
      constructor
      · rintro ⟨y, hy, hk, r, hno, hx⟩
        refine ⟨y, by omega, hk, r, fun m a b => ?_, hx⟩
        by_cases hmj : m = j
        · subst hmj; rintro ⟨h6, _⟩; exact h2 (.inl h6)
        · exact hno m a (by omega)
      · rintro ⟨y, hy, hk, r, hno, hx⟩
        by_cases hyj : y = j
        · subst hyj; exact absurd hk h2
        · exact ⟨y, by omega, hk, r, fun m a b => hno m a (by omega), hx⟩

theorem inv_at (E : Nat → Ev) : ∀ j, (∀ i, i < j → 0 ≤ (E i).c) → Inv E j (stAt E j)
  | 0, _ => ⟨fun _ => Ch.none _ _ _ (fun x hx => by omega), fun _ _ => Ch.none _ _ _ (fun x hx => by omega), fun _ _ => Ch.none _ _ _ (fun x hx => by omega), fun _ _ => Ch.none _ _ _ (fun x hx => by omega)⟩
  | j + 1, h => inv_step E j _ (inv_at E j (fun i hi => h i (by omega))) (h j (by omega))

/-- The program's clock of event j tells who is in or ahead of it. -/
theorem clk_ch (E : Nat → Ev) (j : Nat) (h : ∀ i, i ≤ j → 0 ≤ (E i).c) : Ch E (j + 1) (Se E j) (clk E j) :=
  clk_step E j _ (inv_at E j (fun i hi => h i (by omega))) (h j (Nat.le_refl _))

/-! ### The document's count -/
open Classical in
/-- Of the events below m those of client k that are ahead of j; and j itself. -/
noncomputable def cnt (E : Nat → Ev) (j k : Nat) : Nat → Nat
  | 0 => 0
  | m + 1 => cnt E j k m + if Ah E m j ∧ (E m).c = (k : Int) then 1 else 0

noncomputable def rclk (E : Nat → Ev) (j k : Nat) : Nat := cnt E j k j + if (E j).c = (k : Int) then 1 else 0

theorem ah_down (E : Nat → Ev) {x y j : Nat} (h : Ah E x j) (hy : y < x) (hc : (E y).c = (E x).c) : Ah E y j := (se_own E hy hc).trans h

theorem cnt_ch (E : Nat → Ev) (j k : Nat) : ∀ m, m ≤ j → cnt E j k m ≤ tot E k m ∧ ∀ x, x < m → (E x).c = (k : Int) → (Ah E x j ↔ tot E k x + 1 ≤ cnt E j k m)
  | 0, _ => ⟨Nat.le_refl _, fun x hx => by omega⟩
  | m + 1, hm => by
    obtain ⟨h1, h2⟩ := cnt_ch E j k m (by omega)
    simp only [cnt, tot]
    by_cases hk : (E m).c = (k : Int)
    · by_cases ha : Ah E m j
      · simp only [ha, hk, and_self, if_true]
        -- all of k's events below m are ahead
        have hall : cnt E j k m = tot E k m := by
          rcases Nat.lt_or_ge (cnt E j k m) (tot E k m) with hlt | hge
          · obtain ⟨x, hx, hk', he⟩ := tot_ex E k m (by omega)
            have := (h2 x hx hk').1 (ah_down E ha hx (by rw [hk', hk]))
            omega
          · omega
        refine ⟨by omega, fun x hx hk' => ?_⟩
        constructor
        · intro _
          have := tot_mono E k (show x ≤ m by omega)
          omega
        · intro _
          by_cases hxm : x = m
          · subst hxm; exact ha
          · exact ah_down E ha (by omega) (by rw [hk', hk])
      · simp only [ha, false_and, if_false, hk, if_true]
        refine ⟨by omega, fun x hx hk' => ?_⟩
        by_cases hxm : x = m
        · subst hxm
          exact ⟨fun h => absurd h ha, fun h => by omega⟩
        · exact h2 x (by omega) hk'
    · simp only [hk, and_false, if_false]
      refine ⟨by omega, fun x hx hk' => ?_⟩
      by_cases hxm : x = m
      · subst hxm; exact absurd hk' hk
      · exact h2 x (by omega) hk'

theorem rclk_ch (E : Nat → Ev) (j : Nat) : Ch E (j + 1) (Se E j) (rclk E j) := by
  intro k
  obtain ⟨h1, h2⟩ := cnt_ch E j k j (Nat.le_refl _)
  simp only [rclk, tot]
  by_cases hk : (E j).c = (k : Int)
  · simp only [hk, if_true]
    have hall : cnt E j k j = tot E k j := by
      rcases Nat.lt_or_ge (cnt E j k j) (tot E k j) with hlt | hge
      · obtain ⟨x, hx, hk', he⟩ := tot_ex E k j (by omega)
        have := (h2 x hx hk').1 (se_own E hx (by rw [hk', hk]))
        omega
      · omega
    refine ⟨by omega, fun x hx hk' => ?_⟩
    constructor
    · intro _
      have := tot_mono E k (show x ≤ j by omega)
      omega
    · intro _
      by_cases hxj : x = j
      · exact .inl hxj
      · exact .inr (se_own E (by omega) (by rw [hk', hk]))
  · simp only [hk, if_false]
    refine ⟨by omega, fun x hx hk' => ?_⟩
    by_cases hxj : x = j
    · subst hxj; exact absurd hk' hk
    · show Se E j x ↔ tot E k x + 1 ≤ cnt E j k j
      rw [← h2 x (by omega) hk']
      constructor
      · rintro (h | h)
        · exact absurd h hxj
        · exact h
      · exact .inr

/-- P11.1: the program's clock is the document's. -/
theorem clk_eq (E : Nat → Ev) (j : Nat) (h : ∀ i, i ≤ j → 0 ≤ (E i).c) : clk E j = rclk E j := (clk_ch E j h).uniq (rclk_ch E j)

/-- The program's test of ahead. -/
theorem ahead_iff (E : Nat → Ev) {i j : Nat} (hij : i < j) (h : ∀ x, x ≤ j → 0 ≤ (E x).c) : Ah E i j ↔ clk E i (E i).c.toNat ≤ clk E j (E i).c.toNat := by
  obtain ⟨c, hcc⟩ := Int.eq_ofNat_of_zero_le (h i (by omega))
  have hto : (E i).c.toNat = c := by omega
  rw [hto]
  have a := clk_ch E i (fun x hx => h x (by omega)) c
  have b := clk_ch E j h c
  have h1 := ((b.2 i (by omega) hcc))
  have h2 := (a.2 i (by omega) hcc).1 (.inl rfl)
  have h3 : clk E i c ≤ tot E c i + 1 := by have := a.1; simp only [tot, hcc, if_true] at this; exact this
  have h4 : clk E i c = tot E c i + 1 := by omega
  rw [h4, ← h1]
  constructor
  · exact .inr
  · rintro (h | h)
    · omega
    · exact h

end Go.Proofs.Ytlopdjbehhdmpaa
