/- The texts of this claim, part 1: a small logic of plain values for the model's runs, what it says of the functions, in plain values. -/
import Derived.Test.YtboeojpjgncjoaaGreatDoorPvI0
/- Loops, states that say less, and what a function hands back. -/
namespace Go.Pv
open Go.RowKit

variable {P : Program} {T : Tab} {w0 w w' : World} {Γ0 : Nat → Value} {h0 : Hp} {V M A A' : Bl} {Γ Γ' : Nat → Value} {hp hp' : Hp} {s : St} {a : Act}

/-- The keys that a value names are there. -/
def clo1 (hp : Hp) : PV → Prop
  | .row g _ | .view g _ _ _ | .elt g _ _ _ | .ref g _ => hget hp g ≠ none
  | .agg _ | .tup _ | .fn _ _ => False
  | _ => True
def clo2 (hp : Hp) : PV → Prop
  | .agg xs | .fn _ xs => clol (clo1 hp) xs
  | x => clo1 hp x
def clo (hp : Hp) : PV → Prop
  | .tup xs => clol (clo2 hp) xs
  | x => clo2 hp x

/-- A state that says less. -/
def TmLe (hp : Hp) : Tm → Tm → Prop
  | [], _ => True
  | (t, v) :: r, tm => (tget tm t = v ∧ clo hp v) ∧ TmLe hp r tm
def HpLe (hp' : Hp) : Hp → Hp → Prop
  | [], _ => True
  | (k, c) :: r, hp => (match c with
    | .dead => hget hp k ≠ none
    | .box q cs => hget hp k = some (.box q cs) ∧ clol (clo2 hp') cs
    | .row sz xs => hget hp k = some (.row sz xs)) ∧ HpLe hp' r hp
def Low (hp' : Hp) : Hp → Prop
  | [] => True
  | (k, _) :: r => (64 ≤ k ∨ hget hp' k ≠ none) ∧ Low hp' r
def Sub (s' s : St) : Prop := s'.n = s.n ∧ TmLe s'.hp s'.tm s.tm ∧ HpLe s'.hp s'.hp s.hp ∧ Low s'.hp s.hp

theorem tmLe_get {hp : Hp} : ∀ {tm' tm : Tm}, TmLe hp tm' tm → ∀ t, tget tm' t = .junk ∨ tget tm' t = tget tm t ∧ clo hp (tget tm' t)
  | [], _, _, t => .inl rfl
  | (t0, v) :: r, tm, ⟨⟨h1, h2⟩, h3⟩, t => by
    simp only [tget]
    by_cases e : t = t0
    · rw [if_pos e]; subst e; exact .inr ⟨h1.symm, h2⟩
    · rw [if_neg e]; exact tmLe_get h3 t
theorem hpLe_get {hp' : Hp} : ∀ {h hp : Hp}, HpLe hp' h hp → ∀ k, match hget h k with
    | none => True
    | some .dead => hget hp k ≠ none
    | some (.box q cs) => hget hp k = some (.box q cs) ∧ clol (clo2 hp') cs
    | some (.row sz xs) => hget hp k = some (.row sz xs)
  | [], _, _, k => trivial
  | (k0, c) :: r, hp, ⟨h1, h2⟩, k => by
    simp only [hget]
    by_cases e : k = k0
    · rw [if_pos e]; subst e; cases c <;> exact h1
    · rw [if_neg e]; exact hpLe_get h2 k
theorem low_get {hp' : Hp} : ∀ {hp : Hp}, Low hp' hp → ∀ k, hget hp k ≠ none → k < 64 → hget hp' k ≠ none
  | [], _, k, h, _ => absurd rfl h
  | (k0, c) :: r, ⟨h1, h2⟩, k, h, hk => by
    simp only [hget] at h
    by_cases e : k = k0
    · subst e; exact h1.resolve_left (by omega)
    · rw [if_neg e] at h; exact low_get h2 k h hk
theorem clol_get {f : PV → Prop} : ∀ {xs : List PV}, clol f xs → ∀ (i : Nat) (x : PV), xs[i]? = some x → f x
  | [], _, i, x, h => by simp at h
  | y :: r, ⟨h1, h2⟩, i, x, h => by
    cases i with
    | zero => cases h; exact h1
    | succ i => exact clol_get h2 i x h

/-- Fewer keys. -/
def Less (hp' hp : Hp) : Prop := ∀ k, hget hp' k ≠ none → hget hp k ≠ none ∧ (∀ sz xs, hget hp' k = some (.row sz xs) → hget hp k = some (.row sz xs)) ∧ (∀ q cs, hget hp' k = some (.box q cs) → hget hp k = some (.box q cs))

theorem vr_less1 (hL : Less hp' hp) (hA : ∀ b, A' b → A b) {x : PV} {v : Value} (h : VR w A Γ hp x v) (hc : clo1 hp' x) : VR w A' Γ hp' x v := by
  cases h with
  | data h => exact .data (h.step (fun _ _ _ => rfl) (fun b _ hb => hA b hb))
  | row g n _ h1 h2 h3 => exact .row g n _ h1 hc fun sz xs e => h3 sz xs ((hL g hc).2.1 sz xs e)
  | view g n lo hi _ h1 h2 h3 => exact .view g n lo hi _ h1 hc fun sz xs e => h3 sz xs ((hL g hc).2.1 sz xs e)
  | elt g n i off _ h1 h2 h3 => exact .elt g n i off _ h1 hc fun sz xs e => h3 sz xs ((hL g hc).2.1 sz xs e)
  | ref b off _ h1 h2 h3 => exact .ref b off _ h1 hc fun q cs e => h3 q cs ((hL b hc).2.2 q cs e)
  | agg _ _ _ _ => exact hc.elim
  | tup _ _ _ _ => exact hc.elim
  | fn _ _ _ _ _ => exact hc.elim
theorem vr_less2 (hL : Less hp' hp) (hA : ∀ b, A' b → A b) {x : PV} {v : Value} (h : VR w A Γ hp x v) (hc : clo2 hp' x) : VR w A' Γ hp' x v := by
  cases x
  case agg xs =>
    obtain ⟨cs, rfl, h1, h2⟩ := vr_agg h
    exact .agg xs cs h1 fun i x hi => vr_less1 hL hA (h2 i x hi) (clol_get hc i x hi)
  case fn f xs =>
    obtain ⟨cs, rfl, h1, h2⟩ := vr_fn h
    exact .fn f xs cs h1 fun i x hi => vr_less1 hL hA (h2 i x hi) (clol_get hc i x hi)
  all_goals exact vr_less1 hL hA h hc
theorem vr_less (hL : Less hp' hp) (hA : ∀ b, A' b → A b) {x : PV} {v : Value} (h : VR w A Γ hp x v) (hc : clo hp' x) : VR w A' Γ hp' x v := by
  cases x
  case tup xs =>
    obtain ⟨cs, rfl, h1, h2⟩ := vr_tup h
    exact .tup xs cs h1 fun i x hi => vr_less2 hL hA (h2 i x hi) (clol_get hc i x hi)
  all_goals exact vr_less2 hL hA h hc

theorem Sub.rel {s' s : St} (h : Sub s' s) (R : Rel w0 V M Γ0 h0 s a w) : Rel w0 V M Γ0 h0 s' a w := by
  obtain ⟨hn, htm, hhp, hlo⟩ := h
  obtain ⟨Γ, R⟩ := R
  have hL : Less s'.hp s.hp := fun k hk => by
    have := hpLe_get hhp k
    cases hh : hget s'.hp k with
    | none => exact absurd hh hk
    | some c =>
      rw [hh] at this
      cases c with
      | dead => exact ⟨this, fun _ _ h => (by cases h), fun _ _ h => (by cases h)⟩
      | box q cs => exact ⟨by rw [this.1]; simp, fun _ _ h => (by cases h), fun _ _ h => (by cases h; exact this.1)⟩
      | row sz xs => exact ⟨by rw [this]; simp, fun _ _ h => (by cases h; exact this), fun _ _ h => (by cases h)⟩
  have lv : ∀ k, live s'.hp k → live s.hp k := fun k hl => by
    unfold live at hl ⊢
    cases hh : hget s'.hp k with
    | none => rw [hh] at hl; exact hl.elim
    | some c =>
      rw [hh] at hl
      obtain ⟨_, h2, h3⟩ := hL k (by rw [hh]; simp)
      cases c with
      | dead => exact hl.elim
      | box q cs => rw [h3 q cs hh]; trivial
      | row sz xs => rw [h2 sz xs hh]; trivial
  have hO : ∀ b, Ow Γ s'.hp b → Ow Γ s.hp b := fun b ⟨k, hl, ho⟩ => ⟨k, lv k hl, ho⟩
  have hA : ∀ b, Av V Γ s'.hp b → Av V Γ s.hp b := fun b hb => hb.imp id (hO b)
  refine ⟨Γ, R.kp, R.defers, by rw [R.size, hn], R.vlt, fun t => ?_, fun k => ?_, fun k k' b l l' => R.dis k k' b (lv k l) (lv k' l'), fun b hb => R.own b (hO b hb), fun g hg => ?_, R.low⟩
  · rcases tmLe_get htm t with h1 | ⟨h1, h2⟩
    · rw [h1]; exact .data (.junk _)
    · rw [h1]; rw [h1] at h2; exact vr_less hL hA (R.tm t) h2
  · have hk := R.hp k
    have := hpLe_get hhp k
    unfold HR at hk ⊢
    cases hh : hget s'.hp k with
    | none => trivial
    | some c =>
      rw [hh] at this
      cases c with
      | dead => trivial
      | box q cs =>
        rw [this.1] at hk
        obtain ⟨β, c, fr, h1, h2, h3, h4, h5⟩ := hk
        exact ⟨β, c, fr, h1, h2, h3, h4, fun j y hy => vr_less2 hL hA (h5 j y hy) (clol_get this.2 j y hy)⟩
      | row sz xs =>
        rw [show hget s.hp k = some (.row sz xs) from this] at hk
        refine ⟨hk.1, hk.2.imp id ?_⟩
        rintro ⟨β, o, cap, c, t, fr, h1, h2, hq, h3, h4, h5, h6, h7⟩
        exact ⟨β, o, cap, c, t, fr, h1, h2, hq, h3, h4, h5, h6, fun i x j y hx hy => (h7 i x j y hx hy).step (fun _ _ _ => rfl) (fun b _ hb => hA b hb)⟩
  · obtain ⟨g1, g2, g3⟩ := R.gr g hg
    have hne := low_get hlo g g1 (R.low g hg)
    obtain ⟨_, l2, l3⟩ := hL g hne
    exact ⟨hne, fun sz xs' e => g2 sz xs' (l2 sz xs' e), fun q cs' e => g3 q cs' (l3 q cs' e)⟩

theorem sem_sub {c : Code} {s' s : St} {Q : PE → St → Prop} (hs : Sub s' s) (h : Sem P c s' Q) : Sem P c s Q := fun w0 V M Γ0 h0 a w R => h w0 V M Γ0 h0 a w (hs.rel R)
theorem sem_mono {c : Code} {s : St} {Q Q' : PE → St → Prop} (h : Sem P c s Q) (hq : ∀ e s, Q e s → Q' e s) : Sem P c s Q' := fun w0 V M Γ0 h0 a w R => wp_mono (h w0 V M Γ0 h0 a w R) fun e a w ⟨s', R', q⟩ => by
  refine ⟨s', R', ?_⟩
  cases e <;> first | exact hq _ _ q | exact q

theorem wp_loop_nat {c : Code} {Q : Exit → Act → World → Prop} (I : Nat → Act → World → Prop) {n : Nat} (h₀ : I n a w)
    (round : ∀ n a w, I n a w → c.wp P (Exit.then (fun a' w' => ∃ m, m < n ∧ I m a' w') Q) a w) : (Code.loop c).wp P Q a w := by
  classical
  have least : ∀ (p : Nat → Prop) (n : Nat), p n → ∃ m, p m ∧ ∀ k, p k → m ≤ k := fun p n => by
    induction n using Nat.strongRecOn with
    | _ n ih =>
      intro hp
      by_cases h : ∃ k, k < n ∧ p k
      · obtain ⟨k, h1, h2⟩ := h; exact ih k h1 h2
      · exact ⟨n, hp, fun k hk => Nat.le_of_not_lt fun hl => h ⟨k, hl, hk⟩⟩
  have hex : ∀ a w, ∃ m, (∃ n, I n a w) → I m a w ∧ ∀ k, I k a w → m ≤ k := fun a w => by
    by_cases h : ∃ n, I n a w
    · obtain ⟨n, hn⟩ := h
      obtain ⟨m, h1, h2⟩ := least (fun n => I n a w) n hn
      exact ⟨m, fun _ => ⟨h1, h2⟩⟩
    · exact ⟨0, fun h' => absurd h' h⟩
  refine wp_loop (fun a w => ∃ n, I n a w) (fun a w => (hex a w).choose) ⟨n, h₀⟩ fun a w hI => ?_
  obtain ⟨h1, h2⟩ := (hex a w).choose_spec hI
  refine wp_mono (round _ a w h1) fun e a' w' q => ?_
  cases e <;> try exact q
  obtain ⟨m, hm, hIm⟩ := q
  exact ⟨⟨m, hIm⟩, Nat.lt_of_le_of_lt (((hex a' w').choose_spec ⟨m, hIm⟩).2 m hIm) hm⟩

/-! ### What is handed back -/

/-- The result's keys, as the body calls them: the first 64 as they are; then by the list (none: an empty slice). -/
def tau (τ : List (Option Nat)) (j : Nat) : Option Nat := if j < 64 then some j else τ.getD (j - 64) none

def RV1 (hp hr : Hp) (τ : List (Option Nat)) : PV → PV → Prop
  | .junk, _ => True
  | .row j n, x => hget hr j ≠ none ∧ match tau τ j with
    | some g => x = .row g n
    | none => x = .nils ∧ n = 0
  | .ref j o, x => hget hr j ≠ none ∧ match tau τ j with
    | some g => x = .ref g o
    | none => False
  | .view j n lo hi, x => hget hr j ≠ none ∧ match tau τ j with
    | some g => x = .view g n lo hi
    | none => False
  | .far ys, x => x = .far ys ∨ (x = .nils ∧ ys = []) ∨ ∃ g n, x = .row g n ∧ elems hp x = some ys ∧ ¬ (some g ∈ τ) ∧ 64 ≤ g
  | y, x => data1 y = true ∧ x = y
def RVl (f : PV → PV → Prop) : List PV → List PV → Prop
  | [], [] => True
  | y :: ys, x :: xs => f y x ∧ RVl f ys xs
  | _, _ => False
def RV2 (hp hr : Hp) (τ : List (Option Nat)) : PV → PV → Prop
  | .agg ys, x => ∃ xs, x = .agg xs ∧ RVl (RV1 hp hr τ) ys xs
  | y, x => RV1 hp hr τ y x
def RV (hp hr : Hp) (τ : List (Option Nat)) : PV → PV → Prop
  | .tup ys, x => ∃ xs, x = .tup xs ∧ RVl (RV2 hp hr τ) ys xs
  | y, x => RV2 hp hr τ y x
def RH (hp hr : Hp) (τ : List (Option Nat)) : Hp → Prop
  | [] => True
  | (j, c) :: r => (match tau τ j, c with
    | some g, .row sz xs => hget hp g = some (.row sz xs)
    | some g, .box q ys => ∃ xs, hget hp g = some (.box q xs) ∧ RVl (RV1 hp hr τ) ys xs
    | none, .row sz xs => 0 < sz.sz ∧ xs = []
    | _, _ => False) ∧ RH hp hr τ r
def Back (_ _ : Hp) (_ : Nat) : Prop := True

end Go.Pv

/- What a function's text hands back, is what a call of it brings. -/
namespace Go.Pv
open Go.RowKit

variable {P : Program} {T : Tab} {w0 w w' : World} {Γ0 : Nat → Value} {h0 : Hp} {V M A A' : Bl} {Γ Γ' : Nat → Value} {hp hp' : Hp} {s : St} {a : Act}

def resv (T : Tab) (s : St) : List ResultVar → Option (List PV)
  | [] => some []
  | .tmp t :: r => (resv T s r).map (tget s.tm t :: ·)
  | .cell p t :: r => match T t, cellsAt s.hp (tget s.tm p), resv T s r with
    | some te, some cs, some ys => if te.ti.agg then (if 0 < te.sz ∧ te.sz ≤ cs.length then some (.agg (cs.take te.sz) :: ys) else none) else (match cs with
      | c :: _ => some (c :: ys)
      | [] => none)
    | _, _, _ => none
def oneOf : List PV → PV
  | [x] => x
  | xs => .tup xs
def Taus (hr : Hp) : List (Option Nat) → Prop
  | [] => True
  | some g :: r => (hget hr g = none ∧ ¬ (some g ∈ r)) ∧ Taus hr r
  | none :: r => Taus hr r

/-- The state s at the end hands back res, over hr. -/
def RetOk (T : Tab) (fn : Func) (s : St) (ha : Hp) (res : PV) (hr : Hp) : Prop :=
  ∃ (τ : List (Option Nat)) (xs : List PV), resv T s fn.results.toList = some xs ∧ RV s.hp hr τ res (oneOf xs) ∧ RH s.hp hr τ hr ∧ Taus hr τ ∧ Back ha hr 64

theorem rvl_get {f : PV → PV → Prop} : ∀ {ys xs : List PV}, RVl f ys xs → ys.length = xs.length ∧ ∀ (i : Nat) (y : PV), ys[i]? = some y → ∃ x, xs[i]? = some x ∧ f y x
  | [], [], _ => ⟨rfl, fun i y h => by simp at h⟩
  | [], _ :: _, h => h.elim
  | _ :: _, [], h => h.elim
  | y :: ys, x :: xs, ⟨h1, h2⟩ => by
    obtain ⟨h3, h4⟩ := rvl_get h2
    refine ⟨by simp [h3], fun i z hz => ?_⟩
    cases i with
    | zero => cases hz; exact ⟨x, rfl, h1⟩
    | succ i => exact h4 i z hz

theorem taus_get {hr : Hp} : ∀ {τ : List (Option Nat)}, Taus hr τ → (∀ g, some g ∈ τ → hget hr g = none) ∧ ∀ (i j g : Nat), τ[i]? = some (some g) → τ[j]? = some (some g) → i = j
  | [], _ => ⟨fun g h => by simp at h, fun i j g h => by simp at h⟩
  | none :: r, h => by
    obtain ⟨h1, h2⟩ := taus_get (show Taus hr r from h)
    refine ⟨fun g hg => h1 g (by simpa using hg), fun i j g hi hj => ?_⟩
    cases i with
    | zero => simp at hi
    | succ i => cases j with
      | zero => simp at hj
      | succ j => rw [h2 i j g hi hj]
  | some g0 :: r, ⟨⟨h0, hn⟩, h⟩ => by
    obtain ⟨h1, h2⟩ := taus_get h
    refine ⟨fun g hg => ?_, fun i j g hi hj => ?_⟩
    · rcases List.mem_cons.1 hg with e | e
      · cases e; exact h0
      · exact h1 g e
    · cases i with
      | zero =>
        cases j with
        | zero => rfl
        | succ j => cases hi; have hj' : r[j]? = some (some g0) := hj; exact absurd (List.mem_of_getElem? hj') hn
      | succ i => cases j with
        | zero => cases hj; have hi' : r[i]? = some (some g0) := hi; exact absurd (List.mem_of_getElem? hi') hn
        | succ j => rw [h2 i j g hi hj]

theorem rh_get {hr' : Hp} {τ : List (Option Nat)} : ∀ {hr : Hp}, RH hp hr' τ hr → ∀ {j : Nat} {c : HC}, hget hr j = some c → match tau τ j, c with
    | some g, .row sz xs => hget hp g = some (.row sz xs)
    | some g, .box q ys => ∃ xs, hget hp g = some (.box q xs) ∧ RVl (RV1 hp hr' τ) ys xs
    | none, .row sz xs => 0 < sz.sz ∧ xs = []
    | _, _ => False
  | [], _, j, c, h => by simp [hget] at h
  | (k, x) :: r, ⟨h1, h2⟩, j, c, h => by
    simp only [hget] at h
    split at h
    · rename_i e; cases h; subst e; exact h1
    · exact rh_get h2 h

theorem results_sound (hT : Tok P T) (R : RelG w0 V M Γ0 h0 Γ s a w) : ∀ (l : List ResultVar) (xs : List PV), resv T s l = some xs → ∃ vs : List Value, (l.mapM fun (r : ResultVar) => match r with
      | .tmp t => (Pure.pure (a.tmps.getD t undef) : Go.Sem Value)
      | .cell p t => do loadVar t (← asAddr (a.tmps.getD p undef))).run P w = .ok vs w ∧ vs.length = xs.length ∧ ∀ (i : Nat) (x : PV), xs[i]? = some x → VR w (Av V Γ s.hp) Γ s.hp x (vs.getD i undef)
  | [], xs, h => by
    simp only [resv, Option.some.injEq] at h
    subst h
    exact ⟨[], rfl, rfl, fun i x h => by simp at h⟩
  | .tmp t :: r, xs, h => by
    obtain ⟨ys, h1, rfl⟩ := Option.map_eq_some_iff.1 h
    obtain ⟨vs, h2, h3, h4⟩ := results_sound hT R r ys h1
    refine ⟨a.tmps.getD t undef :: vs, ?_, by simp [h3], fun i x hx => ?_⟩
    · rw [List.mapM_cons, Sem.run_bind, Sem.run_pure]
      simp only [Result.andThen_ok]
      rw [Sem.run_bind, h2]
      rfl
    · cases i with
      | zero => cases hx; exact R.tm t
      | succ i => exact h4 i x hx
  | .cell p t :: r, xs, h => by
    simp only [resv] at h
    cases ht : T t with
    | none => rw [ht] at h; contradiction
    | some te =>
    cases hc : cellsAt s.hp (tget s.tm p) with
    | none => rw [ht, hc] at h; contradiction
    | some cs =>
    cases hr : resv T s r with
    | none => rw [ht, hc, hr] at h; contradiction
    | some ys =>
    rw [ht, hc, hr] at h
    simp only at h
    obtain ⟨vs, h2, h3, h4⟩ := results_sound hT R r ys hr
    have ok := hT t te ht
    obtain ⟨β, o, c, e, fr, hv, hw, hm⟩ := cellsAt_vr (R.tm p) R.hp hc
    have load : ∀ v, (loadVar t ⟨β, o, none⟩).run P w = .ok v w → ((ResultVar.cell p t :: r).mapM fun (r : ResultVar) => match r with
      | .tmp t => (Pure.pure (a.tmps.getD t undef) : Go.Sem Value)
      | .cell p t => do loadVar t (← asAddr (a.tmps.getD p undef))).run P w = .ok (v :: vs) w := fun v hl => by
      have e1 : (do loadVar t (← asAddr (a.tmps.getD p undef)) : Go.Sem Value).run P w = .ok v w := by
        rw [Sem.run_bind, hv]
        exact hl
      rw [List.mapM_cons, Sem.run_bind, e1]
      simp only [Result.andThen_ok]
      rw [Sem.run_bind, h2]
      rfl
    cases hagg : te.ti.agg with
    | true =>
      rw [hagg] at h
      simp only [if_true] at h
      split at h
      · rename_i hsz
        cases h
        have hlen : o + te.sz ≤ c.size := by
          have hj : te.sz - 1 < cs.length := by omega
          have := (hm (te.sz - 1) _ (List.getElem?_eq_getElem hj)).1
          omega
        have hl := run_loadVar (P := P) (o := o) ok hw (by rw [hagg]; exact hlen)
        rw [hagg] at hl
        refine ⟨_, load _ hl, by simp [h3], fun i x hx => ?_⟩
        cases i with
        | zero =>
          cases hx
          refine .agg _ _ (by simp; omega) fun j y hy => ?_
          rw [List.getElem?_take] at hy
          split at hy
          · rename_i hi
            rw [getD_eq (v := c.getD (o + j) undef) (by simp [hi])]
            exact (hm j y hy).2
          · contradiction
        | succ i => exact h4 i x hx
      · contradiction
    | false =>
      rw [hagg] at h
      simp only [Bool.false_eq_true, if_false] at h
      cases cs with
      | nil => contradiction
      | cons c0 cs =>
        cases h
        have h5 := hm 0 c0 rfl
        have hl := run_loadVar (P := P) (o := o) ok hw (by rw [hagg]; simp only [Bool.false_eq_true, if_false]; omega)
        rw [hagg] at hl
        refine ⟨_, load _ hl, by simp [h3], fun i x hx => ?_⟩
        cases i with
        | zero => cases hx; exact h5.2
        | succ i => exact h4 i x hx

theorem fn_results (hT : Tok P T) (R : RelG w0 V M Γ0 h0 Γ s a w) {fn : Func} {xs : List PV} (h : resv T s fn.results.toList = some xs) : ∃ v, (results fn a.tmps).run P w = .ok v w ∧ VR w (Av V Γ s.hp) Γ s.hp (oneOf xs) v := by
  obtain ⟨vs, h1, h2, h3⟩ := results_sound hT R _ _ h
  have hrun : (results fn a.tmps).run P w = .ok (if h : vs.toArray.size = 1 then vs.toArray[0] else .tuple vs.toArray) w := by
    unfold results
    generalize fn.results = rs at h1 ⊢
    obtain ⟨l⟩ := rs
    have h1' : (l.mapM fun (r : ResultVar) => match r with
      | .tmp t => (Pure.pure (a.tmps.getD t undef) : Go.Sem Value)
      | .cell p t => do loadVar t (← asAddr (a.tmps.getD p undef))).run P w = .ok vs w := h1
    have e2 : (l.toArray.mapM fun (r : ResultVar) => match r with
      | .tmp t => (Pure.pure (a.tmps.getD t undef) : Go.Sem Value)
      | .cell p t => do loadVar t (← asAddr (a.tmps.getD p undef))).run P w = .ok vs.toArray w := by
      rw [List.mapM_toArray]
      exact (Go.Sem.run_map P w _ _).trans (by rw [h1']; rfl)
    refine (Go.Sem.run_bind P w _ _).trans ?_
    exact congrArg (fun r => Result.andThen r _) e2
  refine ⟨_, hrun, ?_⟩
  match xs, vs, h2, h3 with
  | [x], [v], _, h3 => exact h3 0 x rfl
  | [], [], _, h3 => exact .tup [] #[] rfl fun i x h => by simp at h
  | x :: y :: r, v :: u :: q, h2, h3 =>
    refine .tup _ _ (by simpa using h2) fun i z hz => ?_
    have := h3 i z hz
    rw [List.getD_eq_getElem?_getD] at this
    rw [Array.getD_eq_getD_getElem?, List.getElem?_toArray]
    exact this

/-- A body's plain run is a call's contract. -/
theorem fn_of (hT : Tok P T) {f : FuncId} {fn : Func} {c : Code} {args : List PV} {ha : Hp} {res : PV} {hr : Hp} (hf : P.funcs[f]? = some fn) (hn : fn.name ≠ "runtime.NumGoroutine") (hb : fn.body = some c) (hlow : ∀ k, hget ha k ≠ none → k < 64)
    (hnt : args.length ≤ fn.ntmps) (h : Sem P c ⟨fn.ntmps, args.zipIdx.map fun p => (p.2, p.1), ha⟩ (fun e s => match e with
      | .exit _ => False
      | _ => RetOk T fn s ha res hr)) : Fn P f args ha res hr := by
  refine ⟨fun vs w => ?_, fun w V Γ vs hV hvs hargs hhr hdis => ?_⟩
  · simp [callFunc, hf, hn, hb]
  · have hinit : RelG w V (Ow Γ ha) Γ ha Γ ⟨fn.ntmps, args.zipIdx.map fun p => (p.2, p.1), ha⟩ { tmps := vs ++ Array.replicate (fn.ntmps - vs.size) undef, defers := [] } w := by
      refine ⟨Kp.refl _ _, rfl, by simp; omega, hV, fun t => ?_, hhr, hdis, fun b hb => .inr hb, Grow.refl _ _, hlow⟩
      have key : ∀ (l : List PV) (k : Nat), (∀ (i : Nat) (x : PV), l[i]? = some x → VR w (Av V Γ ha) Γ ha x (vs.getD (k + i) undef)) → VR w (Av V Γ ha) Γ ha (tget ((l.zipIdx k).map fun p => (p.2, p.1)) t) (vs.getD t undef) := fun l => by
        induction l with
        | nil => intro k _; exact .data (.junk _)
        | cons x l ih =>
          intro k hl
          simp only [List.zipIdx_cons, List.map_cons, tget]
          split
          · rename_i e; subst e; exact hl 0 x rfl
          · exact ih (k + 1) fun i y hy => by have := hl (i + 1) y hy; rwa [show k + (i + 1) = k + 1 + i by omega] at this
      have h1 := key args 0 (fun i x hx => by rw [Nat.zero_add]; exact hargs i x hx)
      by_cases ht : t < vs.size
      · have e : (vs ++ Array.replicate (fn.ntmps - vs.size) undef).getD t undef = vs.getD t undef := by
          simp only [Array.getD_eq_getD_getElem?]
          rw [Array.getElem?_append_left ht]
        rw [e]; exact h1
      · have hj : tget (args.zipIdx.map fun p => (p.2, p.1)) t = .junk := by
          have : ∀ (l : List PV) (k : Nat), k + l.length ≤ t → tget ((l.zipIdx k).map fun p => (p.2, p.1)) t = .junk := fun l => by
            induction l with
            | nil => intro k _; rfl
            | cons x l ih =>
              intro k hk
              simp only [List.length_cons] at hk
              simp only [List.zipIdx_cons, List.map_cons, tget]
              rw [if_neg (by omega)]
              exact ih (k + 1) (by omega)
          exact this args 0 (by omega)
        show VR w _ Γ ha (tget _ t) _
        rw [hj]; exact .data (.junk _)
    refine calls_of_wp hf hb (wp_mono (h w V (Ow Γ ha) Γ ha _ w ⟨Γ, hinit⟩) fun e a' w' ⟨s', ⟨Γ', R'⟩, hq⟩ => ?_)
    have fin : RetOk T fn s' ha res hr → a'.defers = [] ∧ ∃ v, (results fn a'.tmps).run P w' = .ok v w' ∧ (∃ v_1 Γ', Ending.returned v = .returned v_1 ∧ Kp (Ow Γ ha) w w' ∧ VR w' (Av V Γ' hr) Γ' hr res v_1 ∧ (∀ k, HR w' (Av V Γ' hr) Γ' hr k) ∧ Dis Γ' hr ∧ (∀ b, Ow Γ' hr b → w.heap.size ≤ b ∨ Ow Γ ha b) ∧ ∀ k, live ha k → live hr k → Stay ha hr k → Γ' k = Γ k) := fun ⟨τ, xs, h1, h2, h3, h4, h5⟩ => by
      obtain ⟨v, hv1, hv2⟩ := fn_results hT R' h1
      obtain ⟨Γr, hΓ1, hΓ2⟩ : ∃ Γr : Nat → Value, (∀ j g, tau τ j = some g → Γr j = Γ' g) ∧ ∀ j, tau τ j = none → Γr j = .slice none 0 0 := ⟨fun j => match tau τ j with
        | some g => Γ' g
        | none => .slice none 0 0, fun j g h => by simp only [h], fun j h => by simp only [h]⟩
      obtain ⟨ht1, ht2⟩ := taus_get h4
      have hmem : ∀ j g, 64 ≤ j → tau τ j = some g → τ[j - 64]? = some (some g) := fun j g hj e => by
        unfold tau at e
        rw [if_neg (by omega)] at e
        cases hq : τ[j - 64]? with
        | none => simp [List.getD_eq_getElem?_getD, hq] at e
        | some o => simp only [List.getD_eq_getElem?_getD, hq, Option.getD_some] at e; rw [e]
      have htl : ∀ j, j < 64 → tau τ j = some j := fun j hj => if_pos hj
      have inj : ∀ j j' g, hget hr j ≠ none → hget hr j' ≠ none → tau τ j = some g → tau τ j' = some g → j = j' := fun j j' g n n' e e' => by
        by_cases hj : j < 64 <;> by_cases hj' : j' < 64
        · rw [htl j hj] at e; rw [htl j' hj'] at e'; cases e; cases e'; rfl
        · rw [htl j hj] at e; cases e
          exact absurd (ht1 j (List.mem_of_getElem? (hmem j' j (by omega) e'))) n
        · rw [htl j' hj'] at e'; cases e'
          exact absurd (ht1 j' (List.mem_of_getElem? (hmem j j' (by omega) e))) n'
        · have := ht2 _ _ g (hmem j g (by omega) e) (hmem j' g (by omega) e'); omega
      have lv : ∀ j, live hr j → (∃ g, tau τ j = some g ∧ live s'.hp g) ∨ (tau τ j = none) := fun j hl => by
        unfold live at hl
        cases hh : hget hr j with
        | none => rw [hh] at hl; exact hl.elim
        | some c =>
          rw [hh] at hl
          have := rh_get h3 hh
          cases ht : tau τ j with
          | none => exact .inr rfl
          | some g =>
            rw [ht] at this
            refine .inl ⟨g, rfl, ?_⟩
            unfold live
            cases c with
            | dead => exact hl.elim
            | box q ys => obtain ⟨zs, h6, _⟩ := this; rw [h6]; trivial
            | row sz ys => rw [show hget s'.hp g = some (.row sz ys) from this]; trivial
      have hne : ∀ j, live hr j → hget hr j ≠ none := fun j hl e => by unfold live at hl; rw [e] at hl; exact hl
      have hO : ∀ b, Ow Γr hr b → ∃ j g, live hr j ∧ tau τ j = some g ∧ live s'.hp g ∧ ob (Γ' g) = some b := fun b ⟨j, hl, ho⟩ => by
        rcases lv j hl with ⟨g, h6, h7⟩ | h6
        · exact ⟨j, g, hl, h6, h7, by rw [← hΓ1 j g h6]; exact ho⟩
        · rw [hΓ2 j h6] at ho; cases ho
      have hA : ∀ b, Av V Γr hr b → Av V Γ' s'.hp b := fun b hb => hb.imp id fun h => by obtain ⟨j, g, _, _, h7, h8⟩ := hO b h; exact ⟨g, h7, h8⟩
      have ownV : ∀ b k, V b → live s'.hp k → ob (Γ' k) ≠ some b := fun b k hb hl ho => by
        obtain ⟨q1, q2⟩ := R'.vlt.1 b hb
        rcases R'.own b ⟨k, hl, ho⟩ with q3 | q3
        · omega
        · exact q2 q3
      have drw : ∀ {y : PV} {u : Value}, DR w' (Av V Γ' s'.hp) y u → DR w' (Av V Γr hr) y u := fun hd => hd.step (fun _ _ _ => rfl) (fun b _ hb => hA b hb)
      have rv1 : ∀ {y x : PV} {u : Value}, RV1 s'.hp hr τ y x → VR w' (Av V Γ' s'.hp) Γ' s'.hp x u → VR w' (Av V Γr hr) Γr hr y u := fun {y x u} hy hx => by
        cases y
        case junk => exact .data (.junk _)
        case row j n =>
          obtain ⟨h6, h7⟩ := hy
          cases ht : tau τ j with
          | some g =>
            rw [ht] at h7
            subst h7
            cases hx with
            | data hx => cases hx
            | row _ _ _ q1 q2 q3 =>
              refine .row j n _ q1 h6 fun sz xs e => ?_
              have := rh_get h3 e
              rw [ht] at this
              rw [hΓ1 j g ht]
              exact q3 sz xs this
          | none =>
            rw [ht] at h7
            obtain ⟨rfl, rfl⟩ := h7
            rw [vr_nils hx]
            refine .row j 0 _ rfl h6 fun sz xs e => ?_
            have := rh_get h3 e
            rw [ht] at this
            exact ⟨Nat.zero_le _, fun _ => (hΓ2 j ht).symm⟩
        case ref j o =>
          obtain ⟨h6, h7⟩ := hy
          cases ht : tau τ j with
          | none => rw [ht] at h7; exact h7.elim
          | some g =>
            rw [ht] at h7
            subst h7
            cases hx with
            | data hx => cases hx
            | ref _ _ _ q1 q2 q3 =>
              refine .ref j o _ q1 h6 fun _ cs e => ?_
              have := rh_get h3 e
              rw [ht] at this
              obtain ⟨zs, h8, _⟩ := this
              rw [hΓ1 j g ht]
              exact q3 _ zs h8
        case view j n lo hi =>
          obtain ⟨h6, h7⟩ := hy
          cases ht : tau τ j with
          | none => rw [ht] at h7; exact h7.elim
          | some g =>
            rw [ht] at h7
            subst h7
            cases hx with
            | data hx => cases hx
            | view _ _ _ _ _ q1 q2 q3 =>
              refine .view j n lo hi _ q1 h6 fun sz xs e => ?_
              have := rh_get h3 e
              rw [ht] at this
              rw [hΓ1 j g ht]
              exact q3 sz xs this
        case far ys =>
          rcases hy with rfl | ⟨rfl, rfl⟩ | ⟨g, n, rfl, h6, h7, h8⟩
          · exact .data (drw (dr_of hx rfl))
          · rw [vr_nils hx]; exact .data (.far0 _ _)
          · obtain ⟨ad, cap, rfl, hc, hh⟩ := elems_vr hx R'.hp h6
            rcases hh with rfl | ⟨β, o, c, et, fr, sz, rfl, hw, hz, hm, hAA⟩
            · exact .data (.far0 _ _)
            · refine .data (.far ys β o cap sz c et fr (fun hb => ?_) hw hc hz (fun i x j y hx hy => (hm i x j y hx hy).1) (fun i x j y hx hy => drw (hm i x j y hx hy).2))
              rcases hAA with hAA | ⟨g', n', hg, hl, ho⟩
              · exact hAA (hA β hb)
              · have : g' = g := by rcases hg with hg | ⟨_, _, hg⟩ <;> cases hg; rfl
                subst this
                rcases hb with hb | hb
                · exact ownV β g' hb hl ho
                · obtain ⟨j, g2, q1, q2, q3, q4⟩ := hO β hb
                  have := R'.dis g' g2 β hl q3 ho q4
                  subst this
                  by_cases hj : j < 64
                  · rw [htl j hj] at q2; cases q2; omega
                  · exact h7 (List.mem_of_getElem? (hmem j g' (by omega) q2))
        all_goals
          obtain ⟨h6, rfl⟩ := hy
          first
            | exact .data (drw (dr_of hx h6))
            | (simp [data1] at h6)
      have rv2 : ∀ {y x : PV} {u : Value}, RV2 s'.hp hr τ y x → VR w' (Av V Γ' s'.hp) Γ' s'.hp x u → VR w' (Av V Γr hr) Γr hr y u := fun {y x u} hy hx => by
        cases y
        case agg ys =>
          obtain ⟨xs, rfl, hl⟩ := hy
          obtain ⟨cs, rfl, q1, q2⟩ := vr_agg hx
          obtain ⟨q3, q4⟩ := rvl_get hl
          exact .agg ys cs (by omega) fun i z hz => by obtain ⟨x, q5, q6⟩ := q4 i z hz; exact rv1 q6 (q2 i x q5)
        all_goals exact rv1 hy hx
      have rv : ∀ {y x : PV} {u : Value}, RV s'.hp hr τ y x → VR w' (Av V Γ' s'.hp) Γ' s'.hp x u → VR w' (Av V Γr hr) Γr hr y u := fun {y x u} hy hx => by
        cases y
        case tup ys =>
          obtain ⟨xs, rfl, hl⟩ := hy
          obtain ⟨cs, rfl, q1, q2⟩ := vr_tup hx
          obtain ⟨q3, q4⟩ := rvl_get hl
          exact .tup ys cs (by omega) fun i z hz => by obtain ⟨x, q5, q6⟩ := q4 i z hz; exact rv2 q6 (q2 i x q5)
        all_goals exact rv2 hy hx
      refine ⟨R'.defers, v, hv1, v, Γr, rfl, R'.kp, rv h2 hv2, fun j => ?_, fun j j' b l l' e e' => ?_, fun b hb => ?_, fun j hla hlr hst => ?_⟩
      · unfold HR
        cases hh : hget hr j with
        | none => trivial
        | some c =>
          have := rh_get h3 hh
          cases ht : tau τ j with
          | none =>
            rw [ht] at this
            cases c with
            | dead => trivial
            | box q ys => exact this.elim
            | row sz ys => exact ⟨this.1, .inl ⟨this.2, hΓ2 j ht⟩⟩
          | some g =>
            rw [ht] at this
            have hk := R'.hp g
            unfold HR at hk
            cases c with
            | dead => trivial
            | box q ys =>
              obtain ⟨zs, h6, h7⟩ := this
              rw [h6] at hk
              obtain ⟨β, c, fr, q1, q2, q3, q4, q5⟩ := hk
              obtain ⟨q6, q7⟩ := rvl_get h7
              exact ⟨β, c, fr, by rw [hΓ1 j g ht, q1], q2, by omega, q4, fun i y hy => by obtain ⟨x, q8, q9⟩ := q7 i y hy; exact rv1 q9 (q5 i x q8)⟩
            | row sz ys =>
              rw [show hget s'.hp g = some (.row sz ys) from this] at hk
              refine ⟨hk.1, hk.2.imp (fun ⟨q1, q2⟩ => ⟨q1, by rw [hΓ1 j g ht, q2]⟩) ?_⟩
              rintro ⟨β, o, cap, c, t, fr, q1, q2, qq, q3, q4, q5, q6, q7⟩
              exact ⟨β, o, cap, c, t, fr, by rw [hΓ1 j g ht, q1], q2, qq, q3, q4, q5, q6, fun i x l y hx hy => drw (q7 i x l y hx hy)⟩
      · rcases lv j l with ⟨g, q1, q2⟩ | q1
        · rcases lv j' l' with ⟨g', q1', q2'⟩ | q1'
          · rw [hΓ1 j g q1] at e
            rw [hΓ1 j' g' q1'] at e'
            have := R'.dis g g' b q2 q2' e e'
            subst this
            exact inj j j' g (hne j l) (hne j' l') q1 q1'
          · rw [hΓ2 j' q1'] at e'; cases e'
        · rw [hΓ2 j q1] at e; cases e
      · obtain ⟨j, g, _, _, h7, h8⟩ := hO b hb
        exact R'.own b ⟨g, h7, h8⟩
      · have hj := hlow j (fun e => by unfold live at hla; rw [e] at hla; exact hla)
        have ht := htl j hj
        rw [hΓ1 j j ht]
        have hgr := R'.gr j (fun e => by unfold live at hla; rw [e] at hla; exact hla)
        unfold live at hla hlr
        cases hra : hget hr j with
        | none => rw [hra] at hlr; exact hlr.elim
        | some c =>
          have := rh_get h3 hra
          rw [ht] at this
          cases c with
          | dead => rw [hra] at hlr; exact hlr.elim
          | box q ys =>
            obtain ⟨zs, h6, _⟩ := this
            exact (hgr.2.2 q zs h6).1
          | row sz ys =>
            have h6 : hget s'.hp j = some (.row sz ys) := this
            obtain ⟨xs0, q1, q2, q3⟩ := hgr.2.1 sz ys h6
            exact q3 (hst _ _ _ _ q1 hra)
    cases e
    case normal => exact fin hq
    case ret => exact fin hq
    all_goals exact hq.elim

def sfields (P : Program) (t : TypeId) : Option (List (Nat × TypeId × Bool)) := match P.underlying t with
  | some (.struct fs) => some (fs.toList.map fun f => (f.offset, f.type, (P.info? f.type).isSome))
  | _ => none
theorem und_struct {t : TypeId} {fs : List (Nat × TypeId)} (h : sfields P t = some (fs.map fun p => (p.1, p.2, true))) : ∃ fields, P.underlying t = some (.struct fields) ∧ fields.toList.map (fun f => (f.offset, f.type, (P.info? f.type).isSome)) = fs.map (fun p => (p.1, p.2, true)) := by
  unfold sfields at h
  cases hu : P.underlying t with
  | none => rw [hu] at h; contradiction
  | some d =>
    rw [hu] at h
    cases d <;> first | contradiction | exact ⟨_, rfl, Option.some.inj h⟩

theorem low_nil : ∀ k, hget ([] : Hp) k ≠ none → k < 64 := fun _ h => absurd rfl h

end Go.Pv

/- Orders that are left open: an operation seen from the part of a state that it looks at. -/
namespace Go.Pv
open Go.RowKit

variable {P : Program} {T : Tab} {w0 w w' : World} {Γ0 : Nat → Value} {h0 : Hp} {V M A A' : Bl} {Γ Γ' : Nat → Value} {hp hp' : Hp} {s : St} {a : Act}

def liveB (hp : Hp) (k : Nat) : Bool := match hget hp k with
  | some (.box _ _) | some (.row _ _) => true
  | _ => false
theorem liveB_iff {k : Nat} : liveB hp k = true ↔ live hp k := by
  unfold liveB live
  cases hget hp k with
  | none => simp
  | some c => cases c <;> simp

/-- All keys that a value names are of N. -/
def cl1 (N : Nat → Bool) : PV → Bool
  | .row g _ | .view g _ _ _ | .elt g _ _ _ | .ref g _ => N g
  | .agg _ | .tup _ | .fn _ _ => false
  | _ => true
def cl2 (N : Nat → Bool) : PV → Bool
  | .agg xs | .fn _ xs => xs.all (cl1 N)
  | x => cl1 N x
def cl3 (N : Nat → Bool) : PV → Bool
  | .tup xs => xs.all (cl2 N)
  | x => cl2 N x

section
variable {N : Nat → Bool} {hp2 : Hp} {Γ1 Γ2 : Nat → Value} {A1 A2 : Bl}

theorem lift1 (hN : ∀ k, N k = true → hget hp2 k = hget hp k ∧ Γ2 k = Γ1 k) (hA : ∀ b, A2 b → A1 b) {x : PV} {v : Value} (h : VR w A1 Γ1 hp x v) (hc : cl1 N x = true) : VR w A2 Γ2 hp2 x v := by
  cases h with
  | data h => exact .data (h.step (fun _ _ _ => rfl) (fun b _ hb => hA b hb))
  | row g n _ h1 h2 h3 => obtain ⟨e1, e2⟩ := hN g hc; exact .row g n _ h1 (by rw [e1]; exact h2) fun sz xs e => by rw [e2]; rw [e1] at e; exact h3 sz xs e
  | view g n lo hi _ h1 h2 h3 => obtain ⟨e1, e2⟩ := hN g hc; exact .view g n lo hi _ h1 (by rw [e1]; exact h2) fun sz xs e => by rw [e2]; rw [e1] at e; exact h3 sz xs e
  | elt g n i off _ h1 h2 h3 => obtain ⟨e1, e2⟩ := hN g hc; exact .elt g n i off _ h1 (by rw [e1]; exact h2) fun sz xs e => by rw [e2]; rw [e1] at e; exact h3 sz xs e
  | ref b off _ h1 h2 h3 => obtain ⟨e1, e2⟩ := hN b hc; exact .ref b off _ h1 (by rw [e1]; exact h2) fun q cs e => by rw [e2]; rw [e1] at e; exact h3 q cs e
  | agg _ _ _ _ => exact Bool.noConfusion hc
  | tup _ _ _ _ => exact Bool.noConfusion hc
  | fn _ _ _ _ _ => exact Bool.noConfusion hc
theorem lift2 (hN : ∀ k, N k = true → hget hp2 k = hget hp k ∧ Γ2 k = Γ1 k) (hA : ∀ b, A2 b → A1 b) {x : PV} {v : Value} (h : VR w A1 Γ1 hp x v) (hc : cl2 N x = true) : VR w A2 Γ2 hp2 x v := by
  cases x
  case agg xs =>
    obtain ⟨cs, rfl, h1, h2⟩ := vr_agg h
    exact .agg xs cs h1 fun i x hi => lift1 hN hA (h2 i x hi) (List.all_eq_true.1 hc x (List.mem_of_getElem? hi))
  case fn f xs =>
    obtain ⟨cs, rfl, h1, h2⟩ := vr_fn h
    exact .fn f xs cs h1 fun i x hi => lift1 hN hA (h2 i x hi) (List.all_eq_true.1 hc x (List.mem_of_getElem? hi))
  all_goals exact lift1 hN hA h hc
theorem lift3 (hN : ∀ k, N k = true → hget hp2 k = hget hp k ∧ Γ2 k = Γ1 k) (hA : ∀ b, A2 b → A1 b) {x : PV} {v : Value} (h : VR w A1 Γ1 hp x v) (hc : cl3 N x = true) : VR w A2 Γ2 hp2 x v := by
  cases x
  case tup xs =>
    obtain ⟨cs, rfl, h1, h2⟩ := vr_tup h
    exact .tup xs cs h1 fun i x hi => lift2 hN hA (h2 i x hi) (List.all_eq_true.1 hc x (List.mem_of_getElem? hi))
  all_goals exact lift2 hN hA h hc
end

/-- What is said of one key of a lesser state. -/
def Part (st : Hp) (σ : Hp) (k : Nat) : Prop := match hget st k with
  | some (.box q cs) => hget σ k = some (.box q cs) ∧ cs.all (cl2 (liveB st)) = true
  | some (.row sz xs) => hget σ k = some (.row sz xs)
  | _ => True
structure Below (st σ : St) : Prop where
  n : st.n = σ.n
  tm : ∀ t, tget st.tm t = .junk ∨ tget st.tm t = tget σ.tm t ∧ cl3 (liveB st.hp) (tget st.tm t) = true
  hp : ∀ k, Part st.hp σ.hp k

theorem Part.live {st σ : Hp} {k : Nat} (h : Part st σ k) (hl : Pv.live st k) : hget σ k = hget st k ∧ Pv.live σ k := by
  unfold Part at h
  unfold Pv.live at hl ⊢
  cases hh : hget st k with
  | none => rw [hh] at hl; exact hl.elim
  | some c =>
    rw [hh] at h hl
    cases c with
    | dead => exact hl.elim
    | box q cs => rw [h.1]; exact ⟨rfl, trivial⟩
    | row sz xs => rw [show hget σ k = _ from h]; exact ⟨rfl, trivial⟩

/-- The blocks of the keys that a lesser state does not tell. -/
def Rest (V : Bl) (Γ : Nat → Value) (st σ : Hp) : Bl := fun b => V b ∨ ∃ k, live σ k ∧ ¬ live st k ∧ ob (Γ k) = some b

theorem ob_lt {k b : Nat} (h : HR w A Γ hp k) (hl : live hp k) (ho : ob (Γ k) = some b) : b < w.heap.size := by
  unfold HR at h
  unfold live at hl
  cases hh : hget hp k with
  | none => rw [hh] at hl; exact hl.elim
  | some c =>
    rw [hh] at h hl
    cases c with
    | dead => exact hl.elim
    | box q cs =>
      obtain ⟨β, c, fr, h1, h2, _⟩ := h
      rw [h1] at ho
      cases ho
      exact block_lt h2
    | row sz xs =>
      rcases h.2 with ⟨_, h2⟩ | ⟨β, o, cap, c, t, fr, h1, h2, _⟩
      · rw [h2] at ho; cases ho
      · rw [h1] at ho; cases ho; exact block_lt h2

variable {st σ : St}

theorem Below.avoid (B : Below st σ) (b : Nat) (h : Av (Rest V Γ st.hp σ.hp) Γ st.hp b) : Av V Γ σ.hp b := by
  rcases h with (h | ⟨k, h1, _, h3⟩) | ⟨k, h1, h2⟩
  · exact .inl h
  · exact .inr ⟨k, h1, h3⟩
  · exact .inr ⟨k, ((B.hp k).live h1).2, h2⟩

theorem Below.rel (B : Below st σ) (R : RelG w0 V M Γ0 h0 Γ σ a w) : RelG w (Rest V Γ st.hp σ.hp) (Ow Γ st.hp) Γ [] Γ st a w := by
  have hN : ∀ k, liveB st.hp k = true → hget st.hp k = hget σ.hp k ∧ Γ k = Γ k := fun k hk => ⟨((B.hp k).live (liveB_iff.1 hk)).1.symm, rfl⟩
  refine ⟨Kp.refl _ _, R.defers, by rw [R.size, B.n], ⟨fun b hb => ?_, fun g cs hg => ?_⟩, fun t => ?_, fun k => ?_, fun k k' b l l' => R.dis k k' b ((B.hp k).live l).2 ((B.hp k').live l').2, fun b hb => .inr hb, fun g hg => absurd rfl hg, low_nil⟩
  · have ow : Ow Γ st.hp b → Ow Γ σ.hp b := fun ⟨k, h1, h2⟩ => ⟨k, ((B.hp k).live h1).2, h2⟩
    rcases hb with hb | ⟨k, h1, h2, h3⟩
    · obtain ⟨q1, q2⟩ := R.vlt.1 b hb
      exact ⟨Nat.lt_of_lt_of_le q1 R.kp.size, fun ho => (R.own b (ow ho)).elim (fun h => by omega) q2⟩
    · refine ⟨ob_lt (R.hp k) h1 h3, fun ⟨k', l, o⟩ => ?_⟩
      have := R.dis k' k b ((B.hp k').live l).2 h1 o h3
      subst this
      exact h2 l
  · obtain ⟨q1, q2, q3⟩ := R.glo hg
    exact ⟨fun hb => hb.elim q1 fun ⟨k, h1, _, h3⟩ => q2 ⟨k, h1, h3⟩, fun ⟨k, h1, h3⟩ => q2 ⟨k, ((B.hp k).live h1).2, h3⟩, q3⟩
  · rcases B.tm t with h | ⟨h1, h2⟩
    · rw [h]; exact .data (.junk _)
    · rw [h1]; rw [h1] at h2; exact lift3 hN B.avoid (R.tm t) h2
  · have hk := R.hp k
    have hp := B.hp k
    unfold Part at hp
    unfold HR at hk ⊢
    cases hh : hget st.hp k with
    | none => trivial
    | some c =>
      rw [hh] at hp
      cases c with
      | dead => trivial
      | box q cs =>
        rw [hp.1] at hk
        obtain ⟨β, c, fr, h1, h2, h3, h4, h5⟩ := hk
        exact ⟨β, c, fr, h1, h2, h3, h4, fun j y hy => lift2 hN B.avoid (h5 j y hy) (List.all_eq_true.1 hp.2 y (List.mem_of_getElem? hy))⟩
      | row sz xs =>
        rw [show hget σ.hp k = some (.row sz xs) from hp] at hk
        refine ⟨hk.1, hk.2.imp id ?_⟩
        rintro ⟨β, o, cap, c, t, fr, h1, h2, hq, h3, h4, h5, h6, h7⟩
        exact ⟨β, o, cap, c, t, fr, h1, h2, hq, h3, h4, h5, h6, fun i x j y hx hy => (h7 i x j y hx hy).step (fun _ _ _ => rfl) (fun b _ hb => B.avoid b hb)⟩

/-- The keys that are made or turned name live keys alone. -/
def clHp (N : Nat → Bool) : Hp → Bool
  | [] => true
  | (_, .box _ cs) :: r => cs.all (cl2 N) && clHp N r
  | _ :: r => clHp N r
theorem clHp_get {N : Nat → Bool} : ∀ {c : Hp}, clHp N c = true → ∀ {k : Nat} {q : TypeId} {cs : List PV}, hget c k = some (.box q cs) → cs.all (cl2 N) = true
  | [], _, k, _, cs, h => by simp [hget] at h
  | (j, x) :: r, hc, k, _, cs, h => by
    simp only [hget] at h
    split at h
    · cases h
      simp only [clHp, Bool.and_eq_true] at hc
      exact hc.1
    · cases x <;> simp only [clHp, Bool.and_eq_true] at hc <;> first
        | exact clHp_get hc.2 h
        | exact clHp_get hc h

theorem cl1_mono {N N' : Nat → Bool} (h : ∀ k, N k = true → N' k = true) {x : PV} (hc : cl1 N x = true) : cl1 N' x = true := by
  cases x <;> first | exact hc | exact h _ hc
theorem cl2_mono {N N' : Nat → Bool} (h : ∀ k, N k = true → N' k = true) {x : PV} (hc : cl2 N x = true) : cl2 N' x = true := by
  cases x
  case agg xs => exact List.all_eq_true.2 fun y hy => cl1_mono h (List.all_eq_true.1 hc y hy)
  case fn f xs => exact List.all_eq_true.2 fun y hy => cl1_mono h (List.all_eq_true.1 hc y hy)
  all_goals first | exact hc | exact h _ hc
/-- The keys that a value may name that comes from a lesser state. -/
def told (c st : Hp) (k : Nat) : Bool := (hget c k).isSome || liveB st k

/-- What an operation does to a lesser state, it does to the whole one. -/
theorem OpSem.wide (B : Below st σ) (R : RelG w0 V M Γ0 h0 Γ σ a w) {o : Oper} {v : PV} {c : Hp} (hf : ∀ k, hget c k ≠ none → hget st.hp k ≠ none ∨ hget σ.hp k = none)
    (hv : cl3 (told c st.hp) v = true) (hc : clHp (told c st.hp) c = true) (h : OpSem P (Rest V Γ st.hp σ.hp) Γ st.hp a w o v c) : OpSem P V Γ σ.hp a w o v c := fun next Q hn => by
  refine h next Q fun vv w' Γ1 C hvv => ?_
  obtain ⟨Γ2, g1, g2⟩ : ∃ Γ2 : Nat → Value, (∀ k, hget c k ≠ none → Γ2 k = Γ1 k) ∧ ∀ k, hget c k = none → Γ2 k = Γ k := ⟨fun k => if hget c k = none then Γ k else Γ1 k, fun k h => if_neg h, fun k h => if_pos h⟩
  have ge : ∀ k, hget c k = none → live st.hp k → Γ1 k = Γ k := fun k hk hl => by
    have hne : hget st.hp k ≠ none := fun e => by unfold live at hl; rw [e] at hl; exact hl
    obtain ⟨_, q1, q2⟩ := C.grow k hne
    have e : hget (c ++ st.hp) k = hget st.hp k := by rw [hget_app, hk]
    unfold live at hl
    cases hh : hget st.hp k with
    | none => exact absurd hh hne
    | some x =>
      rw [hh] at hl e
      cases x with
      | dead => exact hl.elim
      | box q cs => exact (q2 q cs e).1
      | row sz xs =>
        obtain ⟨ys, e1, e2, e3⟩ := q1 sz xs e
        rw [hh] at e1
        cases e1
        exact e3 rfl
  have hN : ∀ k, told c st.hp k = true → hget (c ++ σ.hp) k = hget (c ++ st.hp) k ∧ Γ2 k = Γ1 k := fun k hk => by
    unfold told at hk
    cases hck : hget c k with
    | some x => exact ⟨by rw [hget_app, hget_app, hck], g1 k (by rw [hck]; simp)⟩
    | none =>
      rw [hck] at hk
      have hl' : live st.hp k := liveB_iff.1 (by simpa using hk)
      exact ⟨by rw [hget_app, hget_app, hck]; exact ((B.hp k).live hl').1, by rw [g2 k hck, ge k hck hl']⟩
  have tl : ∀ k, live (c ++ st.hp) k → told c st.hp k = true := fun k hl => by
    unfold told
    cases hck : hget c k with
    | some x => rfl
    | none => exact liveB_iff.2 (by unfold live at hl ⊢; rw [hget_app, hck] at hl; exact hl)
  have lst : ∀ k, live (c ++ σ.hp) k → live (c ++ st.hp) k ∨ (hget c k = none ∧ live σ.hp k ∧ ¬ live st.hp k) := fun k hl => by
    cases hck : hget c k with
    | some x => left; unfold live at hl ⊢; rw [hget_app, hck] at hl ⊢; exact hl
    | none =>
      have hl1 : live σ.hp k := by unfold live at hl ⊢; rw [hget_app, hck] at hl; exact hl
      by_cases h1 : live st.hp k
      · left; unfold live at h1 ⊢; rw [hget_app, hck]; exact h1
      · exact .inr ⟨rfl, hl1, h1⟩
  have hO : ∀ b, Ow Γ2 (c ++ σ.hp) b → Ow Γ1 (c ++ st.hp) b ∨ ∃ k, live σ.hp k ∧ ¬ live st.hp k ∧ ob (Γ k) = some b := fun b ⟨k, l, o⟩ => by
    rcases lst k l with l1 | ⟨q1, q2, q3⟩
    · exact .inl ⟨k, l1, by rw [← (hN k (tl k l1)).2]; exact o⟩
    · exact .inr ⟨k, q2, q3, by rw [← g2 k q1]; exact o⟩
  have hA : ∀ b, Av V Γ2 (c ++ σ.hp) b → Av (Rest V Γ st.hp σ.hp) Γ1 (c ++ st.hp) b := fun b hb => by
    rcases hb with hb | hb
    · exact .inl (.inl hb)
    · exact (hO b hb).elim .inr fun h => .inl (.inr h)
  have ow : ∀ b, Ow Γ st.hp b → Ow Γ σ.hp b := fun b ⟨k, h1, h2⟩ => ⟨k, ((B.hp k).live h1).2, h2⟩
  have kp : Kp (Ow Γ σ.hp) w w' := C.kp.widen ow
  have grow : Grow Γ Γ2 σ.hp (c ++ σ.hp) := fun g hg => by
    cases hcg : hget c g with
    | none =>
      rw [hget_app, hcg]
      exact ⟨hg, fun sz xs e => ⟨xs, e, Nat.le_refl _, fun _ => g2 g hcg⟩, fun _ cs e => ⟨g2 g hcg, cs, e⟩⟩
    | some x =>
      have hst : hget st.hp g ≠ none := (hf g (by rw [hcg]; simp)).resolve_right hg
      obtain ⟨_, q1, q2⟩ := C.grow g hst
      rw [hget_app, hcg] at q1 q2 ⊢
      refine ⟨by simp, fun sz xs e => ?_, fun q cs e => ?_⟩
      · obtain ⟨ys, e1, e2, e3⟩ := q1 sz xs e
        have hl : live st.hp g := by unfold live; rw [e1]; trivial
        refine ⟨ys, by rw [((B.hp g).live hl).1, e1], e2, fun e4 => ?_⟩
        rw [g1 g (by rw [hcg]; simp)]; exact e3 e4
      · obtain ⟨e1, ds, e2⟩ := q2 q cs e
        have hl : live st.hp g := by unfold live; rw [e2]; trivial
        exact ⟨by rw [g1 g (by rw [hcg]; simp)]; exact e1, ds, by rw [((B.hp g).live hl).1, e2]⟩
  have own : ∀ b, Ow Γ2 (c ++ σ.hp) b → w.heap.size ≤ b ∨ Ow Γ σ.hp b := fun b hb => by
    rcases hO b hb with h1 | ⟨k, q1, _, q3⟩
    · exact (C.own b h1).imp id (ow b)
    · exact .inr ⟨k, q1, q3⟩
  have unt : ∀ k b, live σ.hp k → ¬ (live st.hp k) → ob (Γ k) = some b → b < w.heap.size → w'.heap[b]? = w.heap[b]? := fun k b l n o hb => C.kp.block b hb fun ⟨k', l', o'⟩ => by
    have := R.dis k' k b ((B.hp k').live l').2 l o' o
    subst this
    exact n l'
  refine hn vv w' Γ2 ⟨kp, grow, own, fun k => ?_, fun k k' b l l' e e' => ?_⟩ (lift3 hN hA hvv hv)
  · cases hck : hget c k with
    | some x =>
      have hk := C.hr k
      have hΓ := g1 k (by rw [hck]; simp)
      unfold HR at hk ⊢
      rw [hget_app, hck] at hk ⊢
      cases x with
      | dead => trivial
      | box q cs =>
        obtain ⟨β, cc, fr, h1, h2, h3, h4, h5⟩ := hk
        have := clHp_get hc hck
        exact ⟨β, cc, fr, by rw [hΓ, h1], h2, h3, h4, fun j y hy => lift2 hN hA (h5 j y hy) (List.all_eq_true.1 this y (List.mem_of_getElem? hy))⟩
      | row sz xs =>
        refine ⟨hk.1, hk.2.imp (fun ⟨q1, q2⟩ => ⟨q1, by rw [hΓ, q2]⟩) ?_⟩
        rintro ⟨β, o, cap, cc, t, fr, h1, h2, hq, h3, h4, h5, h6, h7⟩
        exact ⟨β, o, cap, cc, t, fr, by rw [hΓ, h1], h2, hq, h3, h4, h5, h6, fun i x j y hx hy => (h7 i x j y hx hy).step (fun _ _ _ => rfl) (fun b _ hb => hA b hb)⟩
    | none =>
      by_cases hl : live st.hp k
      · have hp := B.hp k
        have hk := C.hr k
        have hΓ : Γ2 k = Γ1 k := by rw [g2 k hck, ge k hck hl]
        have hlk := (hp.live hl).1
        unfold Part at hp
        unfold HR at hk ⊢
        rw [hget_app, hck] at hk ⊢
        simp only at hk ⊢
        rw [hlk]
        cases hh : hget st.hp k with
        | none => trivial
        | some x =>
          rw [hh] at hk hp
          cases x with
          | dead => trivial
          | box q cs =>
            obtain ⟨β, cc, fr, h1, h2, h3, h4, h5⟩ := hk
            exact ⟨β, cc, fr, by rw [hΓ, h1], h2, h3, h4, fun j y hy => lift2 hN hA (h5 j y hy) (cl2_mono (fun k hk => by unfold told; rw [hk, Bool.or_true]) (List.all_eq_true.1 hp.2 y (List.mem_of_getElem? hy)))⟩
          | row sz xs =>
            refine ⟨hk.1, hk.2.imp (fun ⟨q1, q2⟩ => ⟨q1, by rw [hΓ, q2]⟩) ?_⟩
            rintro ⟨β, o, cap, cc, t, fr, h1, h2, hq, h3, h4, h5, h6, h7⟩
            exact ⟨β, o, cap, cc, t, fr, by rw [hΓ, h1], h2, hq, h3, h4, h5, h6, fun i x j y hx hy => (h7 i x j y hx hy).step (fun _ _ _ => rfl) (fun b _ hb => hA b hb)⟩
      · exact hr_keep kp grow own (by rw [hget_app, hck]) (g2 k hck) (fun b l o hb => unt k b l hl o hb) (R.hp k)
  · have dd : ∀ k k', live (c ++ st.hp) k → (hget c k' = none ∧ live σ.hp k' ∧ ¬ live st.hp k') → ob (Γ2 k) = some b → ob (Γ2 k') = some b → False := fun k k' l ⟨q1, q2, q3⟩ e e' => by
      have h1 : Ow Γ1 (c ++ st.hp) b := ⟨k, l, by rw [← (hN k (tl k l)).2]; exact e⟩
      rw [g2 k' q1] at e'
      rcases C.own b h1 with h2 | ⟨k2, l2, o2⟩
      · have := ob_lt (R.hp k') q2 e'
        omega
      · have := R.dis k2 k' b ((B.hp k2).live l2).2 q2 o2 e'
        subst this
        exact q3 l2
    rcases lst k l with l1 | q
    · rcases lst k' l' with l1' | q'
      · rw [(hN k (tl k l1)).2] at e
        rw [(hN k' (tl k' l1')).2] at e'
        exact C.dis k k' b l1 l1' e e'
      · exact (dd k k' l1 q' e e').elim
    · rcases lst k' l' with l1' | q'
      · exact (dd k' k l1' q e' e).elim
      · rw [g2 k q.1] at e
        rw [g2 k' q'.1] at e'
        exact R.dis k k' b q.2.1 q'.2.1 e e'

end Go.Pv

/- Orders that are left open: all of them, in plain values. -/
namespace Go.Pv
open Go.RowKit

variable {P : Program} {T : Tab} {w0 w w' : World} {Γ0 : Nat → Value} {h0 : Hp} {V M A A' : Bl} {Γ Γ' : Nat → Value} {hp hp' : Hp} {s s0 : St} {a : Act}

/-- One operation of such a region: its place, what is ahead of it in all orders, its value, what it makes and turns, what it looked at. -/
structure En where
  i : Nat
  an : List Nat
  d : Option Tmp
  v : PV
  c : Hp
  st : St
def app : List En → St → St
  | [], s => s
  | e :: r, s => (app r s).put e.d e.v e.c

inductive Is (v : PV) (c : Hp) : PV → Hp → Prop
  | mk : Is v c v c
theorem Is.eqs {v v' : PV} {c c' : Hp} (h : Is v c v' c') : v' = v ∧ c' = c := by cases h; exact ⟨rfl, rfl⟩
def mv : Op → Option Operand
  | .move x | .assign x => some x
  | _ => none
def okHp (N : Nat → Bool) : List Nat → Hp → Bool
  | _, [] => true
  | ks, (k, c) :: r => (ks.contains k || match c with
    | .box _ cs => cs.all (cl2 N)
    | _ => true) && okHp N (k :: ks) r
def okSt (st : St) : Bool := st.tm.all (fun p => cl3 (liveB st.hp) p.2) && okHp (liveB st.hp) [] st.hp
def stepD (P : Program) (T : Tab) (o : Oper) (st : St) (v : PV) (c : Hp) : Prop := match mv o.op with
  | some x => Is v c (st.ev x) []
  | none => okSt st = true ∧ popv P T o (Is v c) st ∧ cl3 (told c st.hp) v = true ∧ clHp (told c st.hp) c = true
def gd (ds : List (Option Tmp)) (o : Oper) (st : St) (A B : Prop) : Prop := match o.guard with
  | none => A
  | some (j, want) => match nth ds j with
    | some d => match tget st.tm d with
      | .bool b => if b = want then A else B
      | .raw (.tuple _) => B
      | _ => False
    | none => False
def dne : Option Tmp → Option Tmp → Bool
  | some a, some b => a != b
  | _, _ => true
def noTm : Option Tmp → Tm → Bool
  | some t, tm => tm.all fun p => p.1 != t
  | none, _ => true
/-- Two operations, of which neither waits for the other, do not meet. -/
def pair (f e : En) : Bool := f.an.contains e.i || (dne e.d f.d && (e.c.all fun p => (hget f.c p.1).isNone && !liveB f.st.hp p.1) && (f.c.all fun p => !liveB e.st.hp p.1) && noTm e.d f.st.tm && noTm f.d e.st.tm)

abbrev Plan := List (Oper × List Nat × List Tmp × List Nat)
def lookAt (o : Oper) (lo : List Tmp) (ks : List Nat) (b : St) : St := ⟨b.n, lo.map fun t => (t, tget b.tm t), match mv o.op with
  | some _ => []
  | none => ks.map (fun k => (k, HC.dead)) ++ b.hp⟩
def ahead (an : List Nat) (acc : List En) : List En := acc.filter fun e => an.contains e.i

def draw (P : Program) (T : Tab) (ds : List (Option Tmp)) (s0 : St) (K : St → Prop) : Plan → Nat → List En → Prop
  | [], _, acc => K (app acc s0)
  | (o, an, lo, ks) :: r, i, acc => ∃ (st : St) (v : PV) (c : Hp), st = lookAt o lo ks (app (ahead an acc) s0) ∧ dstOk s0 o.dst ∧ gd ds o st (stepD P T o st v c) (Is v c (.raw undef) []) ∧
      acc.all (pair ⟨i, an, o.dst, v, c, st⟩) = true ∧ draw P T ds s0 K r (i + 1) (⟨i, an, o.dst, v, c, st⟩ :: acc)

/-- What is asked of a plan. -/
def planOk : Plan → List (List Nat) → Nat → Bool
  | [], _, _ => true
  | (o, an, _, _) :: r, ans, i => o.after.toList.all (fun e => !Region.binds .any e || decide (e.on < i)) &&
    an.all (fun k => decide (k < i) && o.after.toList.any fun e => Region.binds .any e && (e.on == k || (ans.getD e.on []).contains k)) && planOk r (ans ++ [an]) (i + 1)

/-! ### The run in the order of the text -/

structure Fit (P : Program) (T : Tab) (ds : List (Option Tmp)) (ops : Array Oper) (s0 : St) (e : En) (acc : List En) : Prop where
  idx : e.i = acc.length
  op : ∃ o, ops[e.i]? = some o ∧ e.d = o.dst ∧ dstOk s0 o.dst ∧ gd ds o e.st (stepD P T o e.st e.v e.c) (Is e.v e.c (.raw undef) []) ∧
    (∀ x ∈ o.after, Region.binds .any x = true → x.on < e.i) ∧ (∀ k ∈ e.an, k < e.i ∧ ∃ x ∈ o.after, Region.binds .any x = true ∧ (x.on = k ∨ ∃ f ∈ acc, f.i = x.on ∧ k ∈ f.an))
  st : ∃ o lo ks, e.st = lookAt o lo ks (app (ahead e.an acc) s0) ∧ (ops[e.i]? = some o)
  pr : ∀ f ∈ acc, pair e f = true
def Good (P : Program) (T : Tab) (ds : List (Option Tmp)) (ops : Array Oper) (s0 : St) : List En → Prop
  | [] => True
  | e :: acc => Fit P T ds ops s0 e acc ∧ Good P T ds ops s0 acc

theorem good_idx {ds : List (Option Tmp)} {ops : Array Oper} : ∀ {F : List En}, Good P T ds ops s0 F → ∀ {e : En}, e ∈ F → e.i < F.length
  | [], _, e, h => by simp at h
  | f :: r, ⟨h1, h2⟩, e, h => by
    rcases List.mem_cons.1 h with h' | h'
    · rw [h', h1.idx]; simp
    · have := good_idx h2 h'; simp; omega
theorem good_inj {ds : List (Option Tmp)} {ops : Array Oper} : ∀ {F : List En}, Good P T ds ops s0 F → ∀ {e f : En}, e ∈ F → f ∈ F → e.i = f.i → e = f
  | [], _, e, f, h, _, _ => by simp at h
  | g :: r, ⟨h1, h2⟩, e, f, he, hf, h => by
    rcases List.mem_cons.1 he with rfl | he' <;> rcases List.mem_cons.1 hf with rfl | hf'
    · rfl
    · have := good_idx h2 hf'; have := h1.idx; omega
    · have := good_idx h2 he'; have := h1.idx; omega
    · exact good_inj h2 he' hf' h
theorem good_all {ds : List (Option Tmp)} {ops : Array Oper} : ∀ {F : List En}, Good P T ds ops s0 F → ∀ (i : Nat), i < F.length → ∃ e ∈ F, e.i = i
  | [], _, i, h => by simp at h
  | g :: r, ⟨h1, h2⟩, i, h => by
    by_cases e : i = r.length
    · exact ⟨g, List.mem_cons_self, by rw [h1.idx, e]⟩
    · obtain ⟨f, hf, hi⟩ := good_all h2 i (by simp at h; omega)
      exact ⟨f, List.mem_cons_of_mem _ hf, hi⟩
theorem good_fit {ds : List (Option Tmp)} {ops : Array Oper} : ∀ {F : List En}, Good P T ds ops s0 F → ∀ {e : En}, e ∈ F → ∃ acc, Fit P T ds ops s0 e acc ∧ Good P T ds ops s0 acc ∧ (∀ f ∈ acc, f ∈ F) ∧ ∀ f ∈ F, f.i < e.i → f ∈ acc
  | [], _, e, h => by simp at h
  | g :: r, ⟨h1, h2⟩, e, h => by
    rcases List.mem_cons.1 h with rfl | h'
    · refine ⟨r, h1, h2, fun f hf => List.mem_cons_of_mem _ hf, fun f hf hi => ?_⟩
      rcases List.mem_cons.1 hf with rfl | hf
      · omega
      · exact hf
    · obtain ⟨acc, q1, q2, q3, q4⟩ := good_fit h2 h'
      refine ⟨acc, q1, q2, fun f hf => List.mem_cons_of_mem _ (q3 f hf), fun f hf hi => ?_⟩
      rcases List.mem_cons.1 hf with rfl | hf'
      · have := good_idx h2 h'; have := h1.idx; omega
      · exact q4 f hf' hi

theorem draw_good {ds : List (Option Tmp)} {ops : Array Oper} {K : St → Prop} : ∀ (pl : Plan) (i : Nat) (acc : List En) (ans : List (List Nat)), (∀ j o, (pl.map Prod.fst)[j]? = some o → ops[i + j]? = some o) → planOk pl ans i = true → i = acc.length → ans.length = i →
    (∀ f ∈ acc, ans[f.i]? = some f.an) → Good P T ds ops s0 acc → draw P T ds s0 K pl i acc → ∃ F, Good P T ds ops s0 F ∧ K (app F s0) ∧ F.length = i + pl.length
  | [], i, acc, ans, _, _, hi, _, _, hg, h => ⟨acc, hg, h, by simp [hi]⟩
  | (o, an, lo, ks) :: r, i, acc, ans, hops, hpl, hi, hl, hans, hg, ⟨st, v, c, h1, h2, h3, h4, h5⟩ => by
    simp only [planOk, Bool.and_eq_true, List.all_eq_true, List.any_eq_true, Bool.or_eq_true, Bool.not_eq_true', decide_eq_true_eq, beq_iff_eq, List.contains_iff_mem] at hpl
    obtain ⟨⟨p1, p2⟩, p3⟩ := hpl
    have ho : ops[i]? = some o := by have := hops 0 o rfl; simpa using this
    have anc : ∀ k ∈ an, k < i ∧ ∃ x ∈ o.after, Region.binds .any x = true ∧ (x.on = k ∨ ∃ f ∈ acc, f.i = x.on ∧ k ∈ f.an) := fun k hk => by
      obtain ⟨q1, x, q2, q3, q4⟩ := p2 k hk
      refine ⟨q1, x, by simpa using q2, q3, q4.imp id fun q5 => ?_⟩
      have hx : x.on < i := (p1 x q2).resolve_left (by simp [q3])
      obtain ⟨f, q6, q7⟩ := good_all hg x.on (by omega)
      have := hans f q6
      rw [q7] at this
      rw [List.getD_eq_getElem?_getD, this] at q5
      exact ⟨f, q6, q7, q5⟩
    have fit : Fit P T ds ops s0 ⟨i, an, o.dst, v, c, st⟩ acc := ⟨hi, ⟨o, ho, rfl, h2, h3, fun x hx hb => (p1 x (by simpa using hx)).resolve_left (by simp [hb]), anc⟩, ⟨o, lo, ks, h1, ho⟩, List.all_eq_true.1 h4⟩
    obtain ⟨F, q1, q2, q3⟩ := draw_good r (i + 1) (⟨i, an, o.dst, v, c, st⟩ :: acc) (ans ++ [an]) (fun j o' hj => by rw [show i + 1 + j = i + (j + 1) by omega]; exact hops (j + 1) o' hj) p3 (by simp [hi]) (by simp [hl])
      (fun f hf => by
        rcases List.mem_cons.1 hf with rfl | hf
        · simp [← hl]
        · have := good_idx hg hf
          rw [List.getElem?_append_left (by omega)]
          exact hans f hf) ⟨fit, hg⟩ h5
    exact ⟨F, q1, q2, by simp only [List.length_cons]; omega⟩

/-! ### Other orders -/

theorem tget_app (t : Nat) : ∀ l : List En, tget (app l s0).tm t = match l.find? (fun e => e.d == some t) with
    | some e => e.v
    | none => tget s0.tm t
  | [] => rfl
  | e :: r => by
    have ih := tget_app t r
    simp only [app, St.put, List.find?]
    cases hd : e.d with
    | none => simp only [tput]; rw [ih]; rfl
    | some d =>
      simp only [tput, tget]
      by_cases h : t = d
      · subst h; simp
      · rw [if_neg h, ih]
        have : ((some d : Option Tmp) == some t) = false := by simp; exact fun e => h e.symm
        rw [this]
theorem hget_app' (k : Nat) : ∀ l : List En, hget (app l s0).hp k = match l.find? (fun e => (hget e.c k).isSome) with
    | some e => hget e.c k
    | none => hget s0.hp k
  | [] => rfl
  | e :: r => by
    have ih := hget_app' k r
    simp only [app, St.put, List.find?, hget_app]
    cases hd : hget e.c k with
    | none => simp only [Option.isSome_none]; exact ih
    | some d => simp only [Option.isSome_some]; rw [hd]
theorem app_n : ∀ l : List En, (app l s0).n = s0.n
  | [] => rfl
  | _ :: r => app_n r

def Apart (e f : En) : Prop := e.i ∉ f.an ∧ e.i ≠ f.i

theorem find_same {F : List En} {q : En → Bool} (hq : ∀ e ∈ F, ∀ f ∈ F, q e = true → q f = true → e ≠ f → e.i ∈ f.an ∨ f.i ∈ e.an) {A B : List En} (hA : A.Pairwise Apart) (hB : B.Pairwise Apart) (hAF : ∀ e ∈ A, e ∈ F) (hBF : ∀ e ∈ B, e ∈ F)
    (h : ∀ e ∈ F, q e = true → (e ∈ A ↔ e ∈ B)) : A.find? q = B.find? q := by
  have first : ∀ {L : List En} {e f : En}, L.Pairwise Apart → L.find? q = some e → f ∈ L → q f = true → f ≠ e → Apart e f := fun {L e f} hL he hf hqf hne => by
    obtain ⟨_, l1, l2, hl, hn⟩ := List.find?_eq_some_iff_append.1 he
    rw [hl] at hf hL
    rcases List.mem_append.1 hf with h1 | h1
    · have := hn f h1; simp [hqf] at this
    · rcases List.mem_cons.1 h1 with h1 | h1
      · exact absurd h1 hne
      · exact (List.pairwise_cons.1 (List.pairwise_append.1 hL).2.1).1 f h1
  cases ha : A.find? q with
  | none =>
    cases hb : B.find? q with
    | none => rfl
    | some f =>
      have hf := List.mem_of_find?_eq_some hb
      have hqf := List.find?_some hb
      have := List.find?_eq_none.1 ha f ((h f (hBF f hf) hqf).2 hf)
      exact absurd hqf this
  | some e =>
    have he := List.mem_of_find?_eq_some ha
    have hqe := List.find?_some ha
    have heB := (h e (hAF e he) hqe).1 he
    cases hb : B.find? q with
    | none => exact absurd hqe (List.find?_eq_none.1 hb e heB)
    | some f =>
      have hf := List.mem_of_find?_eq_some hb
      have hqf := List.find?_some hb
      by_cases hef : e = f
      · rw [hef]
      · have h1 := first hA ha ((h f (hBF f hf) hqf).2 hf) hqf (fun h => hef h.symm)
        have h2 := first hB hb heB hqe hef
        rcases hq e (hAF e he) f (hBF f hf) hqe hqf hef with h3 | h3
        · exact absurd h3 h1.1
        · exact absurd h3 h2.1

end Go.Pv

/- Open orders: every one of them comes to what the order of the text comes to. -/
namespace Go.Pv
open Go.RowKit

variable {P : Program} {T : Tab} {w0 w w' : World} {Γ0 : Nat → Value} {h0 : Hp} {V M A A' : Bl} {Γ Γ' : Nat → Value} {hp hp' : Hp} {s s0 σ : St} {a : Act} {ds : List (Option Tmp)} {ops : Array Oper}

theorem rel_same {s s' : St} (hn : s'.n = s.n) (ht : ∀ t, tget s'.tm t = tget s.tm t) (hh : ∀ k, hget s'.hp k = hget s.hp k) (R : RelG w0 V M Γ0 h0 Γ s a w) : RelG w0 V M Γ0 h0 Γ s' a w := by
  have gr : Grow Γ Γ s.hp s'.hp := fun g hg => ⟨by rw [hh]; exact hg, fun sz xs e => ⟨xs, by rw [← hh]; exact e, Nat.le_refl _, fun _ => rfl⟩, fun q cs e => ⟨rfl, cs, by rw [← hh]; exact e⟩⟩
  have lv : ∀ k, live s'.hp k → live s.hp k := fun k h => by unfold live at *; rw [hh] at h; exact h
  have ow : ∀ b, Ow Γ s'.hp b → Ow Γ s.hp b := fun b ⟨k, h1, h2⟩ => ⟨k, lv k h1, h2⟩
  have av : ∀ b, Av V Γ s'.hp b → Av V Γ s.hp b := fun b h => h.imp id (ow b)
  have vr : ∀ {x v}, VR w (Av V Γ s.hp) Γ s.hp x v → VR w (Av V Γ s'.hp) Γ s'.hp x v := fun h => (h.step (fun _ _ _ => rfl) (fun b _ hb => av b hb)).keys gr
  refine ⟨R.kp, R.defers, by rw [R.size, hn], R.vlt, fun t => by rw [ht]; exact vr (R.tm t), fun k => ?_, fun k k' b l l' => R.dis k k' b (lv k l) (lv k' l'), fun b h => R.own b (ow b h), R.gr.trans gr, R.low⟩
  have hk := R.hp k
  unfold HR at hk ⊢
  rw [hh]
  cases hc : hget s.hp k with
  | none => trivial
  | some c =>
    rw [hc] at hk
    cases c with
    | dead => trivial
    | box q cs =>
      obtain ⟨β, c, fr, h1, h2, h3, h4, h5⟩ := hk
      exact ⟨β, c, fr, h1, h2, h3, h4, fun j y hy => vr (h5 j y hy)⟩
    | row sz xs =>
      refine ⟨hk.1, hk.2.imp id ?_⟩
      rintro ⟨β, o, cap, c, t, fr, h1, h2, hq, h3, h4, h5, h6, h7⟩
      exact ⟨β, o, cap, c, t, fr, h1, h2, hq, h3, h4, h5, h6, fun i x j y hx hy => (h7 i x j y hx hy).step (fun _ _ _ => rfl) (fun b _ hb => av b hb)⟩

structure Ran (F l : List En) : Prop where
  sub : ∀ e ∈ l, e ∈ F
  apart : l.Pairwise Apart
  closed : ∀ e ∈ l, ∀ k ∈ e.an, ∃ f ∈ l, f.i = k

theorem Ran.cons {F l : List En} (R : Ran F l) {e : En} (he : e ∈ F) (hn : ∀ f ∈ l, f.i ≠ e.i) (ha : ∀ k ∈ e.an, ∃ f ∈ l, f.i = k) : Ran F (e :: l) := by
  refine ⟨fun f hf => ?_, List.pairwise_cons.2 ⟨fun f hf => ⟨fun h => ?_, fun h => hn f hf h.symm⟩, R.apart⟩, fun f hf k hk => ?_⟩
  · rcases List.mem_cons.1 hf with rfl | h
    · exact he
    · exact R.sub f h
  · obtain ⟨g, hg, hi⟩ := R.closed f hf e.i h
    exact hn g hg hi
  · rcases List.mem_cons.1 hf with rfl | h
    · obtain ⟨g, hg, hi⟩ := ha k hk
      exact ⟨g, List.mem_cons_of_mem _ hg, hi⟩
    · obtain ⟨g, hg, hi⟩ := R.closed f h k hk
      exact ⟨g, List.mem_cons_of_mem _ hg, hi⟩

theorem good_apart : ∀ {F : List En}, Good P T ds ops s0 F → F.Pairwise Apart
  | [], _ => List.Pairwise.nil
  | e :: r, ⟨h1, h2⟩ => List.pairwise_cons.2 ⟨fun f hf => by
      have hi := good_idx h2 hf
      have := h1.idx
      refine ⟨fun h => ?_, by omega⟩
      obtain ⟨acc, fit, _⟩ := good_fit h2 hf
      obtain ⟨_, _, _, _, _, _, q⟩ := fit.op
      have := (q _ h).1
      omega, good_apart h2⟩

theorem good_pair {F : List En} (hG : Good P T ds ops s0 F) {e f : En} (he : e ∈ F) (hf : f ∈ F) (h : f.i < e.i) : pair e f = true := by
  obtain ⟨acc, fit, _, _, q⟩ := good_fit hG he
  exact fit.pr f (q f hf h)

theorem pair_or {e f : En} (h : pair f e = true) : e.i ∈ f.an ∨ (dne e.d f.d = true ∧ (∀ k, hget e.c k ≠ none → hget f.c k = none ∧ liveB f.st.hp k = false) ∧ (∀ k, hget f.c k ≠ none → liveB e.st.hp k = false) ∧ noTm e.d f.st.tm = true ∧ noTm f.d e.st.tm = true) := by
  have key : ∀ (c : Hp) (q : Nat × HC → Bool), c.all q = true → ∀ k, hget c k ≠ none → ∃ x, q (k, x) = true := fun c q hq k hk => by
    cases hh : hget c k with
    | none => exact absurd hh hk
    | some x => exact ⟨x, List.all_eq_true.1 hq _ (hget_mem hh)⟩
  unfold pair at h
  simp only [Bool.or_eq_true, List.contains_iff_mem] at h
  rcases h with h | h
  · exact .inl h
  · simp only [Bool.and_eq_true] at h
    obtain ⟨⟨⟨⟨h1, h2⟩, h3⟩, h4⟩, h5⟩ := h
    refine .inr ⟨h1, fun k hk => ?_, fun k hk => ?_, h4, h5⟩
    · obtain ⟨x, hx⟩ := key _ _ h2 k hk
      simpa using hx
    · obtain ⟨x, hx⟩ := key _ _ h3 k hk
      simpa using hx

/-- Two of them that write one place: one waits for the other. -/
theorem good_tm {F : List En} (hG : Good P T ds ops s0 F) (t : Nat) : ∀ e ∈ F, ∀ f ∈ F, (e.d == some t) = true → (f.d == some t) = true → e ≠ f → e.i ∈ f.an ∨ f.i ∈ e.an := fun e he f hf h1 h2 hne => by
  have h1 : e.d = some t := by simpa using h1
  have h2 : f.d = some t := by simpa using h2
  rcases Nat.lt_trichotomy e.i f.i with h | h | h
  · rcases pair_or (good_pair hG hf he h) with q | q
    · exact .inl q
    · rw [h1, h2] at q; simp [dne] at q
  · exact absurd (good_inj hG he hf h) hne
  · rcases pair_or (good_pair hG he hf h) with q | q
    · exact .inr q
    · rw [h1, h2] at q; simp [dne] at q
theorem good_hp {F : List En} (hG : Good P T ds ops s0 F) (k : Nat) : ∀ e ∈ F, ∀ f ∈ F, (hget e.c k).isSome = true → (hget f.c k).isSome = true → e ≠ f → e.i ∈ f.an ∨ f.i ∈ e.an := fun e he f hf h1 h2 hne => by
  have h1' : hget e.c k ≠ none := by intro h; rw [h] at h1; cases h1
  have h2' : hget f.c k ≠ none := by intro h; rw [h] at h2; cases h2
  rcases Nat.lt_trichotomy e.i f.i with h | h | h
  · rcases pair_or (good_pair hG hf he h) with q | q
    · exact .inl q
    · exact absurd (q.2.1 k h1').1 h2'
  · exact absurd (good_inj hG he hf h) hne
  · rcases pair_or (good_pair hG he hf h) with q | q
    · exact .inr q
    · exact absurd (q.2.1 k h2').1 h1'

theorem tget_lo (g : Nat → PV) (t : Nat) : ∀ lo : List Nat, (t ∈ lo ∧ tget (lo.map fun t => (t, g t)) t = g t) ∨ (t ∉ lo ∧ tget (lo.map fun t => (t, g t)) t = .junk)
  | [] => .inr ⟨by simp, rfl⟩
  | u :: r => by
    simp only [List.map_cons, tget]
    by_cases h : t = u
    · subst h; exact .inl ⟨by simp, by simp⟩
    · rw [if_neg h]
      rcases tget_lo g t r with ⟨h1, h2⟩ | ⟨h1, h2⟩
      · exact .inl ⟨by simp [h1], h2⟩
      · exact .inr ⟨by simp [h, h1], h2⟩
theorem noTm_lo {g : Nat → PV} {t : Nat} {lo : List Nat} (h : t ∈ lo) : noTm (some t) (lo.map fun t => (t, g t)) = false := by
  unfold noTm
  rw [Bool.eq_false_iff]
  intro hh
  have := List.all_eq_true.1 hh (t, g t) (List.mem_map.2 ⟨t, h, rfl⟩)
  simp at this
theorem hget_kill (ks : List Nat) (hp : Hp) (k : Nat) : hget (ks.map (fun k => (k, HC.dead)) ++ hp) k = some .dead ∨ hget (ks.map (fun k => (k, HC.dead)) ++ hp) k = hget hp k := by
  induction ks with
  | nil => exact .inr rfl
  | cons j r ih =>
    simp only [List.map_cons, List.cons_append, hget]
    split
    · exact .inl rfl
    · exact ih

/-- What is known where an operation is run. -/
structure Here (F l : List En) (e : En) : Prop where
  mem : e ∈ F
  new : ∀ f ∈ l, f.i ≠ e.i
  anc : ∀ k ∈ e.an, ∃ f ∈ l, f.i = k

section
variable {F l acc : List En} {e : En}

/-- One that was run and is not ahead of e: it does not meet e. -/
theorem Here.free (hG : Good P T ds ops s0 F) (R : Ran F l) (H : Here F l e) {f : En} (hf : f ∈ l) (hn : f.i ∉ e.an) : dne f.d e.d = true ∧ (∀ k, hget f.c k ≠ none → hget e.c k = none ∧ liveB e.st.hp k = false) ∧ noTm f.d e.st.tm = true := by
  rcases Nat.lt_trichotomy f.i e.i with h | h | h
  · rcases pair_or (good_pair hG H.mem (R.sub f hf) h) with q | ⟨q1, q2, q3, q4, q5⟩
    · exact absurd q hn
    · exact ⟨q1, q2, q4⟩
  · exact absurd h (H.new f hf)
  · rcases pair_or (good_pair hG (R.sub f hf) H.mem h) with q | ⟨q1, q2, q3, q4, q5⟩
    · obtain ⟨g, hg, hi⟩ := R.closed f hf e.i q
      exact absurd hi (H.new g hg)
    · refine ⟨?_, fun k hk => ⟨?_, q3 k hk⟩, q5⟩
      · cases hd : f.d <;> cases he : e.d <;> rw [hd, he] at q1 <;> first
          | rfl
          | (simp only [dne, bne_iff_ne, ne_eq] at q1 ⊢; exact fun h => q1 h.symm)
      · cases hh : hget e.c k with
        | none => rfl
        | some x => exact absurd (q2 k (by rw [hh]; simp)).1 hk

theorem Here.inAhead (hG : Good P T ds ops s0 F) (R : Ran F l) (H : Here F l e) (fit : Fit P T ds ops s0 e acc) (hacc : ∀ f ∈ acc, f ∈ F) (hall : ∀ f ∈ F, f.i < e.i → f ∈ acc) {f : En} (hf : f ∈ F) : (f ∈ ahead e.an acc ↔ f.i ∈ e.an) ∧ (f.i ∈ e.an → f ∈ l) := by
  obtain ⟨_, _, _, _, _, _, q⟩ := fit.op
  refine ⟨⟨fun h => ?_, fun h => ?_⟩, fun h => ?_⟩
  · have := (List.mem_filter.1 h).2
    simpa using this
  · exact List.mem_filter.2 ⟨hall f hf (q _ h).1, by simpa using h⟩
  · obtain ⟨g, hg, hi⟩ := H.anc _ h
    rw [good_inj hG hf (R.sub g hg) hi.symm]
    exact hg

theorem Here.tmEq (hG : Good P T ds ops s0 F) (R : Ran F l) (H : Here F l e) (fit : Fit P T ds ops s0 e acc) (hGa : Good P T ds ops s0 acc) (hacc : ∀ f ∈ acc, f ∈ F) (hall : ∀ f ∈ F, f.i < e.i → f ∈ acc) (t : Nat) : tget e.st.tm t = .junk ∨ tget e.st.tm t = tget (app l s0).tm t := by
  obtain ⟨o, lo, ks, hst, _⟩ := fit.st
  rcases tget_lo (fun t => tget (app (ahead e.an acc) s0).tm t) t lo with ⟨h1, h2⟩ | ⟨_, h2⟩
  · right
    have : tget e.st.tm t = tget (app (ahead e.an acc) s0).tm t := by rw [hst]; exact h2
    rw [this, tget_app, tget_app]
    rw [find_same (good_tm hG t) (show (ahead e.an acc).Pairwise Apart from (good_apart hGa).sublist List.filter_sublist) R.apart (fun f hf => hacc f (List.mem_filter.1 hf).1) R.sub fun f hf hq => ?_]
    obtain ⟨q1, q2⟩ := H.inAhead hG R fit hacc hall hf
    refine q1.trans ⟨q2, fun h => ?_⟩
    by_cases hn : f.i ∈ e.an
    · exact hn
    · have hd : f.d = some t := by simpa using hq
      have := (H.free hG R h hn).2.2
      rw [hd, hst] at this
      have h3 := noTm_lo (g := fun t => tget (app (ahead e.an acc) s0).tm t) h1
      simp only [lookAt] at this
      rw [h3] at this
      cases this
  · left; rw [hst]; exact h2

theorem Here.hpEq (hG : Good P T ds ops s0 F) (R : Ran F l) (H : Here F l e) (fit : Fit P T ds ops s0 e acc) (hGa : Good P T ds ops s0 acc) (hacc : ∀ f ∈ acc, f ∈ F) (hall : ∀ f ∈ F, f.i < e.i → f ∈ acc) (k : Nat) (hk : liveB e.st.hp k = true ∨ hget e.c k ≠ none) :
    hget (app (ahead e.an acc) s0).hp k = hget (app l s0).hp k := by
  rw [hget_app', hget_app']
  rw [find_same (good_hp hG k) (show (ahead e.an acc).Pairwise Apart from (good_apart hGa).sublist List.filter_sublist) R.apart (fun f hf => hacc f (List.mem_filter.1 hf).1) R.sub fun f hf hq => ?_]
  obtain ⟨q1, q2⟩ := H.inAhead hG R fit hacc hall hf
  refine q1.trans ⟨q2, fun h => ?_⟩
  by_cases hn : f.i ∈ e.an
  · exact hn
  · have hq' : hget f.c k ≠ none := by intro h; rw [h] at hq; cases hq
    obtain ⟨q3, q4⟩ := (H.free hG R h hn).2.1 k hq'
    rcases hk with hk | hk
    · rw [q4] at hk; cases hk
    · exact absurd q3 hk

theorem okHp_get {N : Nat → Bool} : ∀ {c : Hp} {ks : List Nat}, okHp N ks c = true → ∀ {k : Nat} {q : TypeId} {cs : List PV}, k ∉ ks → hget c k = some (.box q cs) → cs.all (cl2 N) = true
  | [], _, _, k, _, cs, _, h => by simp [hget] at h
  | (j, x) :: r, ks, hc, k, _, cs, hn, h => by
    simp only [okHp, Bool.and_eq_true, Bool.or_eq_true, List.contains_iff_mem] at hc
    simp only [hget] at h
    split at h
    · rename_i e
      cases h
      subst e
      exact hc.1.resolve_left hn
    · rename_i e
      exact okHp_get hc.2 (by simp [e, hn]) h

theorem Here.below (hG : Good P T ds ops s0 F) (R : Ran F l) (H : Here F l e) (fit : Fit P T ds ops s0 e acc) (hGa : Good P T ds ops s0 acc) (hacc : ∀ f ∈ acc, f ∈ F) (hall : ∀ f ∈ F, f.i < e.i → f ∈ acc) (hok : okSt e.st = true) : Below e.st (app l s0) := by
  simp only [okSt, Bool.and_eq_true] at hok
  obtain ⟨o, lo, ks, hst, _⟩ := fit.st
  refine ⟨by rw [hst]; show (app (ahead e.an acc) s0).n = _; rw [app_n, app_n], fun t => ?_, fun k => ?_⟩
  · rcases H.tmEq hG R fit hGa hacc hall t with h | h
    · exact .inl h
    · by_cases hj : tget e.st.tm t = .junk
      · exact .inl hj
      · refine .inr ⟨h, ?_⟩
        have key : ∀ tm : Tm, tget tm t ≠ .junk → (t, tget tm t) ∈ tm := fun tm => by
          induction tm with
          | nil => intro h; exact absurd rfl h
          | cons p r ih =>
            obtain ⟨u, x⟩ := p
            simp only [tget]
            intro hne
            split
            · rename_i e; subst e; simp
            · rename_i e
              rw [if_neg e] at hne
              exact List.mem_cons_of_mem _ (ih hne)
        exact List.all_eq_true.1 hok.1 _ (key _ hj)
  · have eq : liveB e.st.hp k = true → hget e.st.hp k = hget (app l s0).hp k := fun hl => by
      rw [← H.hpEq hG R fit hGa hacc hall k (.inl hl)]
      rw [hst] at hl ⊢
      unfold lookAt at hl ⊢
      cases hm : mv o.op with
      | some x => rw [hm] at hl; cases hl
      | none =>
        rw [hm] at hl
        simp only at hl ⊢
        rcases hget_kill ks (app (ahead e.an acc) s0).hp k with h | h
        · unfold liveB at hl; rw [h] at hl; cases hl
        · exact h
    unfold Part
    cases hh : hget e.st.hp k with
    | none => trivial
    | some c =>
      cases c with
      | dead => trivial
      | box q cs => exact ⟨by rw [← eq (by unfold liveB; rw [hh]), hh], okHp_get hok.2 (by simp) hh⟩
      | row sz xs => show hget (app l s0).hp k = _; rw [← eq (by unfold liveB; rw [hh]), hh]

theorem Here.fresh (hG : Good P T ds ops s0 F) (R : Ran F l) (H : Here F l e) (fit : Fit P T ds ops s0 e acc) (hGa : Good P T ds ops s0 acc) (hacc : ∀ f ∈ acc, f ∈ F) (hall : ∀ f ∈ F, f.i < e.i → f ∈ acc) {o : Oper} (ho : ops[e.i]? = some o) (hm : mv o.op = none) (k : Nat) (hk : hget e.c k ≠ none) :
    hget e.st.hp k ≠ none ∨ hget (app l s0).hp k = none := by
  rw [← H.hpEq hG R fit hGa hacc hall k (.inr hk)]
  obtain ⟨o', lo, ks, hst, ho'⟩ := fit.st
  rw [ho] at ho'
  cases ho'
  rw [hst]
  unfold lookAt
  rw [hm]
  simp only
  rcases hget_kill ks (app (ahead e.an acc) s0).hp k with h | h
  · left; rw [h]; simp
  · rw [h]
    cases hget (app (ahead e.an acc) s0).hp k with
    | none => exact .inr rfl
    | some x => left; simp
end

theorem gd_sound (hds : ds = ops.toList.map (·.dst)) {o : Oper} {st : St} {X Y : Prop} (R : RelG w0 V M Γ0 h0 Γ σ a w) (ht : ∀ t, tget st.tm t = .junk ∨ tget st.tm t = tget σ.tm t) (h : gd ds o st X Y) :
    (Region.wanted o (yielded ops a.tmps) = true ∧ X) ∨ (Region.wanted o (yielded ops a.tmps) = false ∧ Y) := by
  unfold gd at h
  cases hg : o.guard with
  | none => rw [hg] at h; exact .inl ⟨by simp [Region.wanted, hg], h⟩
  | some p =>
    obtain ⟨j, want⟩ := p
    rw [hg] at h
    simp only at h
    have hnth : nth ds j = (ops[j]?).bind (·.dst) := by rw [hds, nth_eq, Array.getElem?_toList]
    rw [hnth] at h
    cases hj : (ops[j]?).bind (·.dst) with
    | none => rw [hj] at h; exact False.elim h
    | some d =>
      rw [hj] at h
      simp only at h
      have hv := R.tm d
      rcases ht d with hd | hd
      · rw [hd] at h; exact False.elim h
      rw [← hd] at hv
      cases htt : tget st.tm d <;> rw [htt] at h hv <;> try exact False.elim h
      case bool b =>
        have hyb : yielded ops a.tmps j = some b := by
          have hb := vr_bool hv
          unfold yielded
          rw [hj]
          simp only [Option.bind_some]
          cases h0 : a.tmps[d]? with
          | none => rw [Array.getD_eq_getD_getElem?, h0] at hb; cases hb
          | some u => rw [Array.getD_eq_getD_getElem?, h0] at hb; simp only [Option.getD_some] at hb; subst hb; rfl
        by_cases hbw : b = want
        · simp only [hbw, if_true] at h
          exact .inl ⟨by simp [Region.wanted, hg, hyb, hbw], h⟩
        · simp only [if_neg hbw] at h
          exact .inr ⟨by simp [Region.wanted, hg, hyb, hbw], h⟩
      case raw u =>
        cases u <;> try exact False.elim h
        rename_i vs
        have hu : a.tmps.getD d undef = .tuple vs := by
          generalize a.tmps.getD d undef = z at hv
          cases hv with | data hv => cases hv; rfl
        have hyn : yielded ops a.tmps j = none := by
          unfold yielded
          rw [hj]
          simp only [Option.bind_some]
          cases h0 : a.tmps[d]? with
          | none => rfl
          | some u => rw [Array.getD_eq_getD_getElem?, h0] at hu; simp only [Option.getD_some] at hu; subst hu; rfl
        exact .inr ⟨by simp [Region.wanted, hg, hyn], h⟩

theorem any_sound (hT : Tok P T) (hds : ds = ops.toList.map (·.dst)) {F : List En} (hG : Good P T ds ops s0 F) (hF : F.length = ops.size) {Q : Exit → Act → World → Prop} (hQ : ∀ a w, Rel w0 V M Γ0 h0 (app F s0) a w → Q .normal a w) :
    ∀ (fuel : Nat) (listed : Array Bool) (l : List En) (U : List Nat) (a : Act) (w : World), listed.size = ops.size → U.Nodup → U.length = fuel → (∀ j, j ∈ U ↔ j < ops.size ∧ listed.getD j true = false) → (∀ j, j < ops.size → j ∉ U → ∃ e ∈ l, e.i = j) → (∀ e ∈ l, e.i ∉ U) → Ran F l →
      Rel w0 V M Γ0 h0 (app l s0) a w → wpAny P .any ops Q fuel listed a w := by
  intro fuel
  have done : ∀ (l : List En) (U : List Nat) (a : Act) (w : World), U = [] → (∀ j, j < ops.size → j ∉ U → ∃ e ∈ l, e.i = j) → Ran F l → Rel w0 V M Γ0 h0 (app l s0) a w → Q .normal a w := fun l U a w hU hl R ⟨Γ, hR⟩ => by
    have hm : ∀ e ∈ F, e ∈ F.reverse.reverse ↔ e ∈ l := fun e he => ⟨fun _ => by
      have hi := good_idx hG he
      obtain ⟨f, hf, hi'⟩ := hl e.i (by omega) (by rw [hU]; simp)
      rw [good_inj hG he (R.sub f hf) hi'.symm]
      exact hf, fun _ => by simpa using he⟩
    refine hQ a w ⟨Γ, rel_same (by rw [app_n, app_n]) (fun t => ?_) (fun k => ?_) hR⟩
    · rw [tget_app, tget_app, find_same (good_tm hG t) (good_apart hG) R.apart (fun _ h => h) R.sub fun e he _ => ⟨fun _ => (hm e he).1 (by simpa using he), fun _ => he⟩]
    · rw [hget_app', hget_app', find_same (good_hp hG k) (good_apart hG) R.apart (fun _ h => h) R.sub fun e he _ => ⟨fun _ => (hm e he).1 (by simpa using he), fun _ => he⟩]
  have lst : ∀ {listed : Array Bool} {U : List Nat}, listed.size = ops.size → (∀ j, j ∈ U ↔ j < ops.size ∧ listed.getD j true = false) → ∀ j, j < ops.size → (j ∉ U ↔ listed.getD j false = true) := fun {listed U} hs hU j hj => by
    rw [hU j]
    have : listed[j]? = some listed[j] := Array.getElem?_eq_getElem (by omega)
    simp only [Array.getD_eq_getD_getElem?, this, Option.getD_some, hj, true_and]
    cases listed[j] <;> simp
  have stuck : ∀ {listed : Array Bool} {U : List Nat}, listed.size = ops.size → (∀ j, j ∈ U ↔ j < ops.size ∧ listed.getD j true = false) → Region.ready .any ops listed = [] → U = [] := fun {listed U} hs hU hr => by
    have : ∀ j, j ∉ U := fun j => by
      induction j using Nat.strongRecOn with
      | _ j ih =>
        intro hj
        obtain ⟨h1, h2⟩ := (hU j).1 hj
        obtain ⟨e, he, hi⟩ := good_all hG j (by omega)
        obtain ⟨acc, fit, _⟩ := good_fit hG he
        obtain ⟨o, q1, _, _, _, q2, _⟩ := fit.op
        rw [hi] at q1 q2
        have : j ∈ Region.ready .any ops listed := mem_ready.2 ⟨h2, o, q1, fun x hx hb => by
          have hlt := q2 x hx hb
          exact (lst hs hU x.on (by omega)).1 (ih x.on hlt)⟩
        rw [hr] at this
        cases this
    cases U with
    | nil => rfl
    | cons x r => exact absurd List.mem_cons_self (this x)
  induction fuel with
  | zero =>
    intro listed l U a w hs hnd hlen hU hl hlU R hR
    have hU0 : U = [] := List.length_eq_zero_iff.1 hlen
    refine ⟨?_, done l U a w hU0 hl R hR⟩
    cases hr : Region.ready .any ops listed with
    | nil => rfl
    | cons j r =>
      have hj : j ∈ Region.ready .any ops listed := by rw [hr]; exact List.mem_cons_self
      obtain ⟨h1, o, h2, _⟩ := mem_ready.1 hj
      have := (hU j).2 ⟨(Array.getElem?_eq_some_iff.1 h2).1, h1⟩
      rw [hU0] at this
      cases this
  | succ fuel ih =>
    intro listed l U a w hs hnd hlen hU hl hlU R hR
    refine ⟨fun hr => done l U a w (stuck hs hU hr) hl R hR, fun i hi => ?_⟩
    obtain ⟨h1, o, ho, h2⟩ := mem_ready.1 hi
    have hin : i < ops.size := (Array.getElem?_eq_some_iff.1 ho).1
    have hiU : i ∈ U := (hU i).2 ⟨hin, h1⟩
    obtain ⟨e, he, hei⟩ := good_all hG i (by omega)
    subst hei
    obtain ⟨acc, fit, hGa, hacc, hall⟩ := good_fit hG he
    obtain ⟨o', q1, q2, q3, q4, q5, q6⟩ := fit.op
    rw [ho] at q1
    cases q1
    have hon : ∀ x ∈ o.after, Region.binds .any x = true → ∃ f ∈ l, f.i = x.on := fun x hx hb => by
      have hlt := q5 x hx hb
      exact hl x.on (by omega) ((lst hs hU x.on (by omega)).2 (h2 x hx hb))
    have H : Here F l e := ⟨he, fun f hf h => hlU f hf (by rw [h]; exact hiU), fun k hk => by
      obtain ⟨_, x, hx, hb, hq⟩ := q6 k hk
      obtain ⟨g, hg, hgi⟩ := hon x hx hb
      rcases hq with hq | ⟨f, hf, hfi, hfk⟩
      · exact ⟨g, hg, by rw [hgi, hq]⟩
      · have : f = g := good_inj hG (hacc f hf) (R.sub g hg) (by rw [hfi, hgi])
        subst this
        exact R.closed f hg k hfk⟩
    have R' := R.cons he H.new H.anc
    obtain ⟨Γ, hR⟩ := hR
    have go : ∀ a' w', Rel w0 V M Γ0 h0 (app (e :: l) s0) a' w' → wpAny P .any ops Q fuel (listed.setIfInBounds e.i true) a' w' := fun a' w' hR' => by
      refine ih (listed.setIfInBounds e.i true) (e :: l) (U.erase e.i) a' w' (by simp [hs]) (hnd.erase _) (by rw [List.length_erase_of_mem hiU, hlen]; rfl) (fun j => ?_) (fun j hj hjU => ?_) (fun f hf hfU => ?_) R' hR'
      · rw [hnd.mem_erase_iff, hU j]
        by_cases hj : e.i = j
        · subst hj
          have : (listed.setIfInBounds e.i true).getD e.i true = true := by simp [hs, hin]
          rw [this]; simp
        · rw [getD_set_ne true hj]
          constructor
          · exact fun h => h.2
          · exact fun h => ⟨fun h' => hj h'.symm, h⟩
      · by_cases hje : j = e.i
        · exact ⟨e, List.mem_cons_self, hje.symm⟩
        · obtain ⟨f, hf, hfi⟩ := hl j hj (fun h => hjU (hnd.mem_erase_iff.2 ⟨hje, h⟩))
          exact ⟨f, List.mem_cons_of_mem _ hf, hfi⟩
      · have := hnd.mem_erase_iff.1 hfU
        rcases List.mem_cons.1 hf with rfl | hf
        · exact this.1 rfl
        · exact hlU f hf this.2
    have hd : dstOk (app l s0) o.dst := by
      cases hdd : o.dst with
      | none => trivial
      | some d => rw [hdd] at q3; show d < (app l s0).n; rw [app_n]; exact q3
    have hput : (app (e :: l) s0) = (app l s0).put o.dst e.v e.c := by simp only [app]; rw [q2]
    unfold wpOp
    simp only [ho]
    rcases gd_sound hds hR (H.tmEq hG R fit hGa hacc hall) q4 with ⟨g1, g2⟩ | ⟨g1, g2⟩
    · rw [if_pos g1]
      left
      have fin : OpSem P V Γ (app l s0).hp a w o e.v e.c → o.wp P a w (wpAny P .any ops Q fuel (listed.setIfInBounds e.i true)) Q := fun hs => hs _ _ fun vv w' Γ' C hv => go _ _ ⟨Γ', by rw [hput]; exact hR.puts C hd hv⟩
      unfold stepD at g2
      cases hm : mv o.op with
      | none =>
        rw [hm] at g2
        obtain ⟨k1, k2, k3, k4⟩ := g2
        have B := H.below hG R fit hGa hacc hall k1
        obtain ⟨v, c, hi, hop⟩ := popv_sound hT (B.rel hR) k2
        obtain ⟨rfl, rfl⟩ := hi.eqs
        exact fin (hop.wide B hR (H.fresh hG R fit hGa hacc hall ho hm) k3 k4)
      | some x =>
        rw [hm] at g2
        obtain ⟨k1, k2⟩ := g2.eqs
        have hp : popv P T o (Is ((app l s0).ev x) []) (app l s0) := by
          obtain ⟨dst, op, ty, pos, after, guard⟩ := o
          cases op <;> simp only [mv, Option.some.injEq, reduceCtorEq] at hm
          all_goals
            subst hm
            exact ⟨rfl, .mk⟩
        obtain ⟨v, c, hi, hop⟩ := popv_sound hT hR hp
        obtain ⟨rfl, rfl⟩ := hi.eqs
        refine fin ?_
        rw [← k2]
        have hx : e.st.ev x = .junk ∨ e.st.ev x = (app l s0).ev x := by
          cases x with
          | tmp t => exact H.tmEq hG R fit hGa hacc hall t
          | _ => exact .inr rfl
        rcases hx with hx | hx
        · rw [← k1, hx]
          exact fun next Q hn => hop next Q fun vv w' Γ' C hv => hn vv w' Γ' C (.data (.junk _))
        · rw [← k1, hx]
          exact hop
    · rw [if_neg (by rw [g1]; simp)]
      refine go _ _ ⟨Γ, ?_⟩
      obtain ⟨g2, g3⟩ := g2.eqs
      rw [hput, ← g2, ← g3]
      exact hR.puts (Chg.same hR rfl rfl rfl rfl) hd (.data (.raw _))

/-- A region whose orders are open. -/
theorem draw_sound (hT : Tok P T) (hm : P.follows .mixedOrders = true) {id : Nat} {K : St → Prop} {pl : Plan} (hops : pl.map Prod.fst = ops.toList) (hpl : planOk pl [] 0 = true) (h : draw P T (ops.toList.map (·.dst)) s K pl 0 []) : Sem P (.region id ops true) s fun e s' => match e with
    | .normal => K s'
    | _ => False := fun w0 V M Γ0 h0 a w ⟨Γ, R⟩ => by
  obtain ⟨F, h1, h2, h3⟩ := draw_good (ops := ops) pl 0 [] [] (fun j o hj => by rw [hops] at hj; simpa using hj) hpl rfl rfl (fun f hf => by simp at hf) trivial h
  have hlen : F.length = ops.size := by
    have := congrArg List.length hops
    simp at this
    omega
  refine wp_region_any hm ?_
  have R' : RelG w0 V M Γ0 h0 Γ s a { w with drawn := w.drawn + 1 } := (Chg.same (w' := { w with drawn := w.drawn + 1 }) R rfl rfl rfl rfl).rel R
  refine any_sound hT rfl h1 hlen (fun a w hR => ⟨_, hR, h2⟩) ops.size (Array.replicate ops.size false) [] (List.range ops.size) a _ (by simp) List.nodup_range (by simp) (fun j => ?_) (fun j hj hn => absurd (List.mem_range.2 hj) hn) (fun e he => by simp at he) ⟨fun e he => by simp at he, List.Pairwise.nil, fun e he => by simp at he⟩ ⟨Γ, R'⟩
  rw [List.mem_range]
  constructor
  · intro hj
    refine ⟨hj, ?_⟩
    simp [hj]
  · exact fun h => h.1

end Go.Pv

/- One operation comes to one value, whatever is asked behind it. -/
namespace Go.Pv
open Go.RowKit

variable {P : Program} {T : Tab} {hp : Hp} {s : St} {key : Nat} {ρ : Operand → PV}

theorem bin_is {b : Bool} {op : BinOp} {x y : PV} {K : PV → Prop} (h : bin b op x y K) : ∃ v, K v ∧ ∀ K' : PV → Prop, K' v → bin b op x y K' := by
  cases x <;> try exact h.elim
  all_goals cases y <;> try exact h.elim
  all_goals cases op <;> first
    | exact h.elim
    | exact ⟨_, h.2.2, fun K' hk => ⟨h.1, h.2.1, hk⟩⟩
    | exact ⟨_, h.2, fun K' hk => ⟨h.1, hk⟩⟩
    | exact ⟨_, h, fun K' hk => hk⟩

theorem bin2_is {t : TypeId} {op : BinOp} {x y : PV} {K : PV → Prop} (h : bin2 T t op x y K) : ∃ v, K v ∧ ∀ K' : PV → Prop, K' v → bin2 T t op x y K' := by
  unfold bin2 at h ⊢
  split at h
  · rename_i xs ys
    cases ht : T t with
    | none => rw [ht] at h; exact h.elim
    | some te =>
      rw [ht] at h
      obtain ⟨ti, sz, by', z⟩ := te
      cases ti <;> try exact h.elim
      rename_i fs
      obtain ⟨hf, h⟩ := h
      simp only [sbt]
      cases hc : fcmp T fs 0 xs ys with
      | none => rw [hc] at h; exact h.elim
      | some r =>
        rw [hc] at h
        cases op <;> simp only [sbk] at h ⊢ <;> first
          | exact h.elim
          | exact ⟨_, h, fun K' hk => ⟨hf, hk⟩⟩
  · obtain ⟨hf, h⟩ := h
    cases hc : sln _ with
    | none => rw [hc] at h; exact h.elim
    | some r =>
      rw [hc] at h
      cases op <;> simp only [sbk] at h ⊢ <;> first
        | exact h.elim
        | exact ⟨_, h, fun K' hk => ⟨hf, hk⟩⟩
  · obtain ⟨v, a, b⟩ := bin_is h
    exact ⟨v, a, b⟩
theorem buildS_is {fs : List (Nat × TypeId)} : ∀ {l : List (Nat × PV)} {cs : List PV} {K : List PV → Prop}, buildS T fs cs l K → ∃ ds, K ds ∧ ∀ K' : List PV → Prop, K' ds → buildS T fs cs l K'
  | [], cs, K, h => ⟨cs, h, fun K' hk => hk⟩
  | (i, x) :: r, cs, K, h => by
    simp only [buildS] at h ⊢
    cases h1 : fs[i]? with
    | none => rw [h1] at h; exact h.elim
    | some p =>
      obtain ⟨off, ft⟩ := p
      rw [h1] at h
      simp only at h ⊢
      cases h2 : T ft with
      | none => rw [h2] at h; exact h.elim
      | some fe =>
        rw [h2] at h
        obtain ⟨a1, a2, a3, a4⟩ := h
        obtain ⟨ds, b1, b2⟩ := buildS_is a4
        exact ⟨ds, b1, fun K' hk => ⟨a1, a2, a3, b2 K' hk⟩⟩

theorem bounds_is {n : Nat} {lo hi : Option PV} {K : Nat → Nat → Prop} (h : bounds n lo hi K) : ∃ l m, K l m ∧ ∀ K' : Nat → Nat → Prop, K' l m → bounds n lo hi K' := by
  unfold bounds at h ⊢
  split at h
  · exact ⟨_, _, h, fun K' hk => hk⟩
  · exact ⟨_, _, h.2.2, fun K' hk => ⟨h.1, h.2.1, hk⟩⟩
  · exact ⟨_, _, h.2.2, fun K' hk => ⟨h.1, h.2.1, hk⟩⟩
  · exact ⟨_, _, h.2.2.2, fun K' hk => ⟨h.1, h.2.1, h.2.2.1, hk⟩⟩
  · exact h.elim

def One (F : (PV → Hp → Prop) → Prop) : Prop := ∀ K, F K → ∃ v c, K v c ∧ ∀ K' : PV → Hp → Prop, K' v c → F K'
theorem One.no {F : (PV → Hp → Prop) → Prop} (h : ∀ K, F K → False) : One F := fun K k => (h K k).elim
theorem One.k (v : PV) (c : Hp) : One fun K => K v c := fun K h => ⟨v, c, h, fun _ h => h⟩
theorem One.and {p : Prop} {F : (PV → Hp → Prop) → Prop} (h : One F) : One fun K => p ∧ F K := fun K ⟨h1, h2⟩ => by
  obtain ⟨v, c, a, b⟩ := h K h2
  exact ⟨v, c, a, fun K' hk => ⟨h1, b K' hk⟩⟩
theorem One.ite {p : Prop} [Decidable p] {F G : (PV → Hp → Prop) → Prop} (h : One F) (k : One G) : One fun K => if p then F K else G K := by
  by_cases hp : p
  · simp only [hp, if_true]; exact h
  · simp only [hp, if_false]; exact k
theorem One.bnd {n : Nat} {lo hi : Option PV} {F : Nat → Nat → (PV → Hp → Prop) → Prop} (h : ∀ l m, One (F l m)) : One fun K => bounds n lo hi fun l m => F l m K := fun K k => by
  obtain ⟨l, m, a, b⟩ := bounds_is k
  obtain ⟨v, c, a', b'⟩ := h l m K a
  exact ⟨v, c, a', fun K' hk => b _ (b' K' hk)⟩
theorem One.bld {fs : List (Nat × TypeId)} {cs : List PV} {l : List (Nat × PV)} : One fun K => buildS T fs cs l fun ds => K (.agg ds) [] := fun K k => by
  obtain ⟨ds, a, b⟩ := buildS_is k
  exact ⟨_, _, a, fun K' hk => b _ hk⟩
theorem One.bin {t : TypeId} {op : BinOp} {x y : PV} : One fun K => bin2 T t op x y fun v => K v [] := fun K k => by
  obtain ⟨v, a, b⟩ := bin2_is k
  exact ⟨_, _, a, fun K' hk => b _ hk⟩
theorem One.ifn {b : Bool} {op : BinOp} {x : PV} : One fun K => ifn b op x fun v => K v [] := fun K k => by
  have g : ∀ r, sbk op (fun v => K v []) r → ∃ v c, K v c ∧ ∀ K' : PV → Hp → Prop, K' v c → sbk op (fun v => K' v []) r := fun r h => by
    cases r with
    | none => exact h.elim
    | some q => cases op <;> simp only [sbk] at h ⊢ <;> first
      | exact h.elim
      | exact ⟨_, _, h, fun K' hk => hk⟩
  unfold Go.Pv.ifn at k ⊢
  split at k <;> first
    | exact k.elim
    | exact g _ k
theorem One.mki {b : Bool} {t : TypeId} {x : PV} : One fun K => mki b t x K := fun K k => by
  unfold Go.Pv.mki at k ⊢
  split at k <;> first
    | exact k.elim
    | exact ⟨_, _, k, fun K' hk => hk⟩
theorem One.ex {α : Sort _} {F : α → (PV → Hp → Prop) → Prop} (h : ∀ x, One (F x)) : One fun K => ∃ x, F x K := fun K ⟨x, k⟩ => by
  obtain ⟨v, c, a, b⟩ := h x K k
  exact ⟨v, c, a, fun K' hk => ⟨x, b K' hk⟩⟩

theorem qop_one (op : Op) : One fun K => qop T hp key ρ K op := by
  cases op
  all_goals try (exact One.no fun K h => h)
  all_goals simp only [qop]
  all_goals repeat' (first
    | exact One.no fun K h => h
    | exact One.k _ _
    | exact One.bin
    | exact One.ifn
    | exact One.mki
    | exact One.bld
    | refine One.and ?_
    | refine One.ite ?_ ?_
    | refine One.bnd fun l m => ?_
    | refine One.ex fun x => ?_
    | split)
theorem eop_one (op : Op) : One fun K => eop T hp key ρ K op := by
  cases op
  all_goals try (exact One.no fun K h => h)
  all_goals unfold eop
  all_goals repeat' (first
    | exact One.no fun K h => h
    | exact One.k _ _
    | refine One.and ?_
    | refine One.ite ?_ ?_
    | refine One.bnd fun l m => ?_
    | refine One.ex fun x => ?_
    | split)
theorem call_one {xs : List PV} {f : FuncId} : One fun K => Call P hp key xs f K := fun K ⟨κ, R, keep, as, ha, res, hr, h1, h2, h3, h4, h5, h6, h7, h8, h9⟩ =>
  ⟨_, _, h9, fun K' hk => ⟨κ, R, keep, as, ha, res, hr, h1, h2, h3, h4, h5, h6, h7, h8, hk⟩⟩
theorem popv_one (o : Oper) : One fun K => popv P T o K s := by
  have q : ∀ op, One fun K => qop T s.hp (keyOf s o.dst) s.ev (fun v c => (c.isEmpty || (hget s.hp (keyOf s o.dst)).isNone) = true ∧ K v c) op := fun op K h => by
    obtain ⟨v, c, ⟨a1, a2⟩, b⟩ := qop_one op _ h
    exact ⟨v, c, a2, fun K' hk => b _ ⟨a1, hk⟩⟩
  unfold popv
  split
  · exact eop_one _
  · split
    · exact eop_one _
    · exact q _
  · exact eop_one _
  · exact eop_one _
  · split
    · exact call_one
    · exact One.no fun K h => h
  · exact q _

theorem pop_is {o : Oper} {K : St → Prop} (h : pop P T o K s) : ∃ s', K s' ∧ ∀ K' : St → Prop, K' s' → pop P T o K' s := by
  obtain ⟨v, c, a, b⟩ := popv_one o _ h.2
  exact ⟨_, a, fun K' hk => ⟨h.1, b _ hk⟩⟩
theorem pops_is {ds : List (Option Tmp)} : ∀ {l : List Oper} {s : St} {K : St → Prop}, pops P T ds K l s → ∃ s', K s' ∧ ∀ K' : St → Prop, K' s' → pops P T ds K' l s
  | [], s, K, h => ⟨s, h, fun _ hk => hk⟩
  | o :: r, s, K, h => by
    have step : pop P T o (pops P T ds K r) s → ∃ s', K s' ∧ ∀ K' : St → Prop, K' s' → pop P T o (pops P T ds K' r) s := fun h => by
      obtain ⟨s1, a1, b1⟩ := pop_is h
      obtain ⟨s2, a2, b2⟩ := pops_is a1
      exact ⟨s2, a2, fun K' hk => b1 _ (b2 K' hk)⟩
    simp only [pops] at h ⊢
    cases hg : o.guard with
    | none => rw [hg] at h; exact step h
    | some p =>
      obtain ⟨j, want⟩ := p
      rw [hg] at h
      simp only at h ⊢
      cases hd : nth ds j with
      | none => rw [hd] at h; exact h.elim
      | some d =>
        rw [hd] at h
        simp only at h ⊢
        obtain ⟨h0, h⟩ := h
        cases ht : tget s.tm d <;> rw [ht] at h <;> try exact h.elim
        case bool b =>
          by_cases e : b = want
          · obtain ⟨s2, a2, b2⟩ := step (h.1 e)
            exact ⟨s2, a2, fun K' hk => ⟨h0, fun _ => b2 K' hk, fun e' => absurd (e.symm.trans e') (by cases want <;> decide)⟩⟩
          · obtain ⟨s2, a2, b2⟩ := pops_is (h.2 (by cases b <;> cases want <;> simp_all))
            exact ⟨s2, a2, fun K' hk => ⟨h0, fun e' => absurd e' e, fun _ => b2 K' hk⟩⟩
        case raw u =>
          cases u <;> try exact h.elim
          obtain ⟨s2, a2, b2⟩ := pops_is h
          exact ⟨s2, a2, fun K' hk => ⟨h0, b2 K' hk⟩⟩
end Go.Pv

/- What one operation does to plain values, in the form in which simp reckons it. -/
namespace Go.Pv
open Go.RowKit Go.Mth

variable {P : Program} {T : Tab} {s : St} {hp : Hp} {key : Nat}

def k0 (K : PV → Hp → Prop) (v : PV) : Prop := K v []
def pickv : PV → PV → PV → (PV → Hp → Prop) → Prop
  | .bool t, a, b, K => K (if t then a else b) []
  | _, _, _, _ => False
def allocv (e : TypeId) : Option TE → Hp → Nat → (PV → Hp → Prop) → Prop
  | some te, hp, key, K => (hget hp key).isNone = true ∧ K (.ref key 0) [(key, .box e te.zero)]
  | none, _, _, _ => False
def boxv (e : TypeId) (vs : List PV) (hp : Hp) (key : Nat) (K : PV → Hp → Prop) : Prop := vs.all cell1 = true ∧ (hget hp key).isNone = true ∧ K (.ref key 0) [(key, .box e vs)]
def aggk (K : PV → Hp → Prop) (cs : List PV) : Prop := K (.agg cs) []
def bd2 : Option TE → Nat → List PV → PV → (List PV → Prop) → Prop
  | some fe, off, cs, x, J => (flat x).length = fe.sz ∧ okPart x = true ∧ off + fe.sz ≤ cs.length ∧ J (splice cs off (flat x))
  | none, _, _, _, _ => False
def bd1 (T : Tab) : Option (Nat × TypeId) → List PV → PV → (List PV → Prop) → Prop
  | some (off, ft), cs, x, J => bd2 (T ft) off cs x J
  | none, _, _, _ => False
def bdv (T : Tab) (fs : List (Nat × TypeId)) : List (Nat × PV) → (List PV → Prop) → List PV → Prop
  | [], K, cs => K cs
  | (i, x) :: r, K, cs => bd1 T (fs[i]?) cs x (bdv T fs r K)
def buildA (T : Tab) : Option TE → Nat → TypeId → List PV → List (Nat × PV) → (List PV → Prop) → Prop
  | some ee, m, e, z, l, K => bdv T ((List.range m).map fun i => (i * ee.sz, e)) l K z
  | none, _, _, _, _, _ => False
def buildv (T : Tab) : Option TE → List (Nat × PV) → (PV → Hp → Prop) → Prop
  | some ⟨.struct fs, _, _, z⟩, l, K => bdv T fs l (aggk K) z
  | some ⟨.arr m e, _, _, z⟩, l, K => buildA T (T e) m e z l (aggk K)
  | _, _, _ => False
def elemT (T : Tab) : Option TE → Option TE
  | some ⟨.slice e, _, _, _⟩ => T e
  | _ => none
def bslv : Option TE → Hp → Nat → Nat → List Nat → List PV → (PV → Hp → Prop) → Prop
  | some ee, hp, key, len, ix, l, K => 0 < ee.sz ∧ len * ee.sz ≤ 16777216 ∧ seqOk ix 0 = true ∧ l.length = len ∧ clol (fun x => (flat x).length = ee.sz ∧ (flat x).all cell1 = true ∧ (flat x).all data1 = true) l ∧
      (hget hp key).isNone = true ∧ K (.row key len) [(key, .row ⟨ee.sz, 0⟩ l)]
  | none, _, _, _, _, _, _ => False
def mkv : Option TE → Hp → Nat → PV → PV → (PV → Hp → Prop) → Prop
  | some ee, hp, key, .int _ n, .int _ m, K => 0 < ee.sz ∧ 0 ≤ n ∧ n ≤ m ∧ m ≤ 281474976710656 ∧ m * ee.bytes ≤ 281474976710656 ∧ (hget hp key).isNone = true ∧ K (.row key n.toNat) [(key, .row ⟨ee.sz, 0⟩ (List.replicate n.toNat (zeroElem ee)))]
  | _, _, _, _, _, _ => False
def ld1 : Bool → Nat → List PV → (PV → Hp → Prop) → Prop
  | true, sz, cs, K => 0 < sz ∧ sz ≤ cs.length ∧ K (.agg (cs.take sz)) []
  | false, _, cs, K => 0 < cs.length ∧ K (cs.getD 0 .junk) []
def ldv : Option TE → Option (List PV) → (PV → Hp → Prop) → Prop
  | some te, some cs, K => ld1 te.ti.agg te.sz cs K
  | _, _, _ => False
def nilv (x : PV) (K : PV → Hp → Prop) : Option (List PV) → Prop
  | some _ => K x []
  | none => False
def unv : UnOp → PV → (PV → Hp → Prop) → Prop
  | .not, .bool b, K => K (.bool (!b)) []
  | .neg, .int k n, K => K (.int k (k.wrap (0 - n))) []
  | .xor, .int k n, K => K (.int k (bits .xor k (if k.signed then -1 else k.max) n)) []
  | _, _, _ => False
inductive CK where
  | int (k : IntKind) | str | s2b | b2s | no
def isU8 : Option TE → Bool
  | some ⟨.int .u8, 1, _, _⟩ => true
  | _ => false
def ck (T : Tab) : Option TE → Option TE → CK
  | some ⟨.slice e, _, _, _⟩, some ⟨.str, _, _, _⟩ => if isU8 (T e) then .b2s else .no
  | some ⟨.str, _, _, _⟩, some ⟨.slice e, _, _, _⟩ => if isU8 (T e) then .s2b else .no
  | some _, some ⟨.int k, _, _, _⟩ => .int k
  | some _, some ⟨.str, _, _, _⟩ => .str
  | _, _ => .no
def b2s (K : PV → Hp → Prop) : Option (List PV) → Prop
  | some xs => (∀ z ∈ xs, isByte z) ∧ K (.str (strP xs)) []
  | none => False
def convv (hp : Hp) (key : Nat) (K : PV → Hp → Prop) : CK → PV → Prop
  | .int k, .int _ n => K (.int k (k.wrap n)) []
  | .str, .str s => K (.str s) []
  | .s2b, .str s => (hget hp key).isNone = true ∧ K (.row key s.size) [(key, .row ⟨1, 0⟩ (bytesP s))]
  | .b2s, x => b2s K (elems hp x)
  | _, _ => False
def szT : Option TE → Option Nat
  | some ee => some ee.sz
  | none => none
def slS (s : ByteArray) (K : PV → Hp → Prop) (l h : Nat) : Prop := K (.str (s.extract l h)) []
def slF (xs : List PV) (K : PV → Hp → Prop) (l h : Nat) : Prop := K (.far ((xs.take h).drop l)) []
def slR (g n : Nat) (K : PV → Hp → Prop) (l h : Nat) : Prop := K (.view g n l h) []
def slA (b : Nat) (cs : List PV) (K : PV → Hp → Prop) (l h : Nat) : Prop := K (.far ((cs.take h).drop l)) [(b, .dead)]
def slarr (lo hi : Option PV) (K : PV → Hp → Prop) (b m : Nat) : Option TE → Option HC → Prop
  | some ee, some (.box _ cs) => ee.sz = 1 ∧ cs.length = m ∧ cs.all data1 = true ∧ bounds m lo hi (slA b cs K)
  | _, _ => False
def lenA (z : Nat) (xs : List PV) : Prop := ∀ y ∈ xs, (flat y).length = z
def slrow (lo hi : Option PV) (g n z : Nat) (K : PV → Hp → Prop) : Option HC → Prop
  | some (.row sz xs) => n = xs.length ∧ z = sz ∧ bounds n lo hi (slR g n K)
  | _ => False
def slview (lo hi : Option PV) (g n h0 z : Nat) (K : PV → Hp → Prop) : Option HC → Prop
  | some (.row sz xs) => n = xs.length ∧ z = sz ∧ bounds (if hi.isSome then n else h0) lo hi (slR g n K)
  | _ => False
def sl3 (lo hi mx : PV) (n : Nat) (K : PV → Hp → Prop) : Option HC → Prop
  | some (.row _ xs) => n = xs.length ∧ bnd3 n lo hi mx ∧ K .junk []
  | _ => False
/-- A slice expression, over the slice's type and its elements'. -/
def slv (hp : Hp) (lo hi : Option PV) (K : PV → Hp → Prop) (ar : Option (Nat × Option TE)) : PV → Option TE → Option TE → Prop
  | .str s, some ⟨.str, _, _, _⟩, _ => bounds s.size lo hi (slS s K)
  | .far xs, _, some ee => lenA ee.sz xs ∧ bounds xs.length lo hi (slF xs K)
  | .row g n, _, some ee => slrow lo hi g n ee.sz K (hget hp g)
  | .view g n 0 h0, _, some ee => slview lo hi g n h0 ee.sz K (hget hp g)
  | .ref b 0, _, _ => match ar with
    | some (m, o) => slarr lo hi K b m o (hget hp b)
    | none => False
  | _, _, _ => False
def slv3 (hp : Hp) (lo hi mx : PV) (K : PV → Hp → Prop) : PV → Option TE → Prop
  | .row g n, some _ => sl3 lo hi mx n K (hget hp g)
  | _, _ => False
def fieldU (T : Tab) : Option (Nat × TypeId) → Option (Nat × Option TE)
  | some (off, ft) => some (off, T ft)
  | none => none
def fieldT (T : Tab) (f : Nat) : Option TE → Option (Nat × Option TE)
  | some ⟨.struct fs, _, _, _⟩ => fieldU T (fs[f]?)
  | _ => none
def fad (K : PV → Hp → Prop) (off : Nat) : PV → PV → Hp → Prop
  | .ref b o, _, _ => K (.ref b (o + off)) []
  | .elt g n i o, _, _ => K (.elt g n i (o + off)) []
  | .fel xs, _, _ => K (.fel (xs.drop off)) []
  | _, _, _ => False
def fadv (cs : Option (List PV)) (K : PV → Hp → Prop) : PV → Option (Nat × Option TE) → Prop
  | x, some (off, some fe) => 0 < fe.sz ∧ nilv x (fad K off x) cs
  | _, _ => False
def fl1 (K : PV → Hp → Prop) (cs : List PV) (off sz : Nat) : Bool → Prop
  | true => off + sz ≤ cs.length ∧ K (.agg ((cs.drop off).take sz)) []
  | false => off < cs.length ∧ K (cs.getD off .junk) []
def fldv (K : PV → Hp → Prop) : PV → Option (Nat × Option TE) → Prop
  | .agg cs, some (off, some fe) => fl1 K cs off fe.sz fe.ti.agg
  | _, _ => False
def arrT (T : Tab) : Option TE → Option (Nat × Option TE)
  | some ⟨.arr m e, _, _, _⟩ => some (m, T e)
  | _ => none
def ixr (g n : Nat) (j : Int) (z : Nat) (K : PV → Hp → Prop) : Option HC → Prop
  | some (.row sz xs) => n = xs.length ∧ sz = z ∧ 0 ≤ j ∧ j < n ∧ K (.elt g n j.toNat 0) []
  | _ => False
def ixw (g n lo hi : Nat) (j : Int) (z : Nat) (K : PV → Hp → Prop) : Option HC → Prop
  | some (.row sz xs) => n = xs.length ∧ sz = z ∧ 0 ≤ j ∧ j < ((hi - lo : Nat) : Int) ∧ K (.elt g n (lo + j.toNat) 0) []
  | _ => False
def ixb (K : PV → Hp → Prop) (m : Nat) (j : Int) (x : PV) (c : Hp) : Prop := 0 ≤ j ∧ j < m ∧ K x c
def ixav (hp : Hp) (K : PV → Hp → Prop) : PV → PV → Option TE → Option (Nat × Option TE) → Prop
  | .far xs, .int _ j, some ee, _ => 0 ≤ j ∧ j < xs.length ∧ (flat (xs.getD j.toNat .junk)).length = ee.sz ∧ K (.fel (flat (xs.getD j.toNat .junk))) []
  | .row g n, .int _ j, some ee, _ => ixr g n j ee.sz K (hget hp g)
  | .view g n lo hi, .int _ j, some ee, _ => ixw g n lo hi j ee.sz K (hget hp g)
  | .ref b off, .int _ j, _, some (m, some ee) => nilv (.ref b (off + j.toNat * ee.sz)) (ixb K m j) (cellsAt hp (.ref b off))
  | .fel xs, .int _ j, _, some (m, some ee) => ixb K m j (.fel (xs.drop (j.toNat * ee.sz))) []
  | _, _, _, _ => False
def isStr : Option TE → Bool
  | some ⟨.str, _, _, _⟩ => true
  | _ => false
def ixv (K : PV → Hp → Prop) : PV → PV → Bool → Option (Nat × Option TE) → Prop
  | .str s, .int _ j, true, _ => 0 ≤ j ∧ j < s.size ∧ K (.int .u8 (b8 s j.toNat).toNat) []
  | .agg cs, .int _ j, _, some (m, some ee) => ee.ti.agg = false ∧ 0 ≤ j ∧ j < m ∧ j.toNat * ee.sz < cs.length ∧ K (cs.getD (j.toNat * ee.sz) .junk) []
  | _, _, _, _ => False
def extv (i : Nat) (K : PV → Hp → Prop) : PV → Prop
  | .tup xs => i < xs.length ∧ K (xs.getD i .junk) []
  | _ => False
def lenv (K : PV → Hp → Prop) : PV → Option (List PV) → Bool → Bool → Prop
  | .str s, none, _, true => K (.int .i64 s.size) []
  | _, some xs, true, _ => K (.int .i64 xs.length) []
  | _, _, _, _ => False
def isSl : Option TE → Bool
  | some ⟨.slice _, _, _, _⟩ => true
  | _ => false
def minv (mx : Bool) (K : PV → Hp → Prop) : PV → PV → Prop
  | .int k a, .int k' b => k = k' ∧ K (.int k (if mx then (if b > a then b else a) else (if b < a then b else a))) []
  | _, _ => False
def callv (P : Program) (hp : Hp) (key : Nat) (xs : List PV) (K : PV → Hp → Prop) : PV → Prop
  | .fn (.func g) caps => Call P hp key (xs ++ caps) g K
  | _ => False
def stb (b off z : Nat) (vs : List PV) (K : PV → Hp → Prop) : Option HC → Prop
  | some (.box q cs) => off + z ≤ cs.length ∧ K .junk [(b, .box q (splice cs off vs))]
  | _ => False
def ste (g n i off z : Nat) (vs : List PV) (K : PV → Hp → Prop) : Option HC → Prop
  | some (.row sz xs) => n = xs.length ∧ i < n ∧ off + z ≤ sz ∧ vs.all data1 = true ∧ K .junk [(g, .row sz (xs.set i (upd (xs.getD i .junk) off vs)))]
  | _ => False
def stv (hp : Hp) (vs : List PV) (K : PV → Hp → Prop) : PV → Option Nat → Prop
  | .ref b off, some z => vs.length = z ∧ 0 < z ∧ vs.all cell1 = true ∧ stb b off z vs K (hget hp b)
  | .elt g n i off, some z => vs.length = z ∧ 0 < z ∧ vs.all cell1 = true ∧ ste g n i off z vs K (hget hp g)
  | _, _ => False
def tyOk (q e : TypeId) : Prop := q = 0 ∨ q = e
def elemI : Option TE → TypeId
  | some ⟨.slice e, _, _, _⟩ => e
  | _ => 0
def apr (g n sz by' : Nat) (e : TypeId) (ys : List PV) (K : PV → Hp → Prop) : Option HC → Prop
  | some (.row z xs) => n = xs.length ∧ (z.sz = sz ∧ (z.q = 0 ∨ z.q = e)) ∧ (xs ++ ys).length * by' ≤ 140737488355328 ∧ K (.row g (xs ++ ys).length) [(g, .row z (xs ++ ys))]
  | _ => False
def apw (g n lo hi sz : Nat) (ys : List PV) (K : PV → Hp → Prop) : Option HC → Prop
  | some (.row z xs) => n = xs.length ∧ z.sz = sz ∧ hi + ys.length ≤ n ∧ K (.view g n lo (hi + ys.length)) [(g, .row z (xs.take hi ++ ys ++ xs.drop (hi + ys.length)))]
  | _ => False
def apx (hp : Hp) (key sz by' : Nat) (e : TypeId) (y : PV) (ys : List PV) (K : PV → Hp → Prop) : PV → Prop
  | .row g n => apr g n sz by' e ys K (hget hp g)
  | .view g n lo hi => apw g n lo hi sz ys K (hget hp g)
  | .nils => (hget hp key).isNone = true ∧ 0 < ys.length ∧ ys.length * by' ≤ 140737488355328 ∧ K (.row key ys.length) [(key, .row ⟨sz, qof y e⟩ ys)]
  | _ => False
def elOk (sz : Nat) (ys : List PV) : Prop := ∀ z ∈ ys, (flat z).length = sz ∧ (flat z).all cell1 = true
def apv (hp : Hp) (key : Nat) (x y : PV) (e : TypeId) (K : PV → Hp → Prop) : Option TE → Bool → Option (List PV) → Prop
  | some ee, true, some ys => 0 < ee.sz ∧ 0 < ee.bytes ∧ elOk ee.sz ys ∧ apx hp key ee.sz ee.bytes e y ys K x
  | _, _, _ => False
def clr (g n lo hi z : Nat) (K : PV → Hp → Prop) : Option HC → Prop
  | some (.row sz xs) => n = xs.length ∧ sz.sz = z ∧ lo < hi ∧ hi ≤ n ∧ K .junk [(g, .row sz (xs.take lo ++ List.replicate (hi - lo) (.agg (List.replicate sz.sz .junk)) ++ xs.drop hi))]
  | _ => False
def clv (K : PV → Hp → Prop) : PV → Option TE → Hp → Prop
  | .view g n lo hi, some ee, hp => clr g n lo hi ee.sz K (hget hp g)
  | _, _, _ => False
def biv (T : Tab) (s : St) (key : Nat) (K : PV → Hp → Prop) : Builtin → List Operand → List TypeId → Prop
  | .append, [x, y], [t, u] => apv s.hp key (s.ev x) (s.ev y) (elemI (T t)) K (elemT T (T t)) (isSl (T u) || isStr (T u)) (appd s.hp (s.ev y))
  | .len, [x], [t] => lenv K (s.ev x) (elems s.hp (s.ev x)) (isSl (T t)) (isStr (T t))
  | .min, [x, y], _ => minv false K (s.ev x) (s.ev y)
  | .max, [x, y], _ => minv true K (s.ev x) (s.ev y)
  | .clear, [x], [t] => clv K (s.ev x) (elemT T (T t)) s.hp
  | _, _, _ => False

def bnv (T : Tab) (t : TypeId) (o : BinOp) (x y : PV) (K : PV → Prop) : Bool → Prop
  | true => ifn (isIf T t) o x K
  | false => bin2 T t o x y K
def vop (P : Program) (T : Tab) (d : Option Tmp) (op : Op) (K : PV → Hp → Prop) (s : St) : Prop := match op with
  | .move x => K (s.ev x) []
  | .assign x => K (s.ev x) []
  | .pick c a b => pickv (s.ev c) (s.ev a) (s.ev b) K
  | .alloc e => allocv e (T e) s.hp (keyOf s d) K
  | .box e x => boxv e (flat (s.ev x)) s.hp (keyOf s d) K
  | .build t ps => buildv T (T t) (ps.toList.map fun p => (p.1, s.ev p.2)) K
  | .buildSlice t len ps => bslv (elemT T (T t)) s.hp (keyOf s d) len (ps.toList.map (·.1)) (ps.toList.map fun p => s.ev p.2) K
  | .makeSlice t l c => mkv (elemT T (T t)) s.hp (keyOf s d) (s.ev l) (s.ev c) K
  | .load t a => ldv (T t) (cellsAt s.hp (s.ev a)) K
  | .nilCheck x => nilv (s.ev x) K (cellsAt s.hp (s.ev x))
  | .binOp o t x y _ => bnv T t o (s.ev x) (s.ev y) (k0 K) (isNil y)
  | .makeInterface t x => mki (isIn T t) t (s.ev x) K
  | .unOp o _ x => unv o (s.ev x) K
  | .convert src dst x => convv s.hp (keyOf s d) K (ck T (T src) (T dst)) (s.ev x)
  | .slice t x lo hi none => slv s.hp (lo.map s.ev) (hi.map s.ev) K (arrT T (T t)) (s.ev x) (T t) (elemT T (T t))
  | .slice t x (some lo) (some hi) (some mx) => slv3 s.hp (s.ev lo) (s.ev hi) (s.ev mx) K (s.ev x) (elemT T (T t))
  | .fieldAddr t x f => fadv (cellsAt s.hp (s.ev x)) K (s.ev x) (fieldT T f (T t))
  | .field t x f => fldv K (s.ev x) (fieldT T f (T t))
  | .indexAddr t x i => ixav s.hp K (s.ev x) (s.ev i) (elemT T (T t)) (arrT T (T t))
  | .index t x i => ixv K (s.ev x) (s.ev i) (isStr (T t)) (arrT T (T t))
  | .extract t i => extv i K (s.ev t)
  | .makeFunc f first caps => first.toList = [] ∧ K (.fn f (caps.toList.map s.ev)) []
  | .store t x v => stv s.hp (flat (s.ev v)) K (s.ev x) (szT (T t))
  | .call ⟨.builtin b, args, ts⟩ => biv T s (keyOf s d) K b args.toList ts.toList
  | .call ⟨.value f, args, _⟩ => callv P s.hp (keyOf s d) (args.toList.map s.ev) K (s.ev f)
  | _ => False

theorem nilv_iff {x : PV} {K : PV → Hp → Prop} {cs : Option (List PV)} (h : nilv x K cs) : cs.isSome = true ∧ K x [] := by
  cases cs with
  | none => exact h.elim
  | some _ => exact ⟨rfl, h⟩
theorem bdv_buildS {fs : List (Nat × TypeId)} : ∀ {l : List (Nat × PV)} {cs : List PV} {K : List PV → Prop}, bdv T fs l K cs → buildS T fs cs l K
  | [], cs, K, h => h
  | (i, x) :: r, cs, K, h => by
    simp only [bdv] at h
    simp only [buildS]
    cases h1 : fs[i]? with
    | none => rw [h1] at h; exact h.elim
    | some p =>
      obtain ⟨off, ft⟩ := p
      rw [h1] at h
      simp only [bd1] at h
      simp only
      cases h2 : T ft with
      | none => rw [h2] at h; exact h.elim
      | some fe =>
        rw [h2] at h
        exact ⟨h.1, h.2.1, h.2.2.1, bdv_buildS h.2.2.2⟩
theorem bin_k0 {t : TypeId} {o : BinOp} {x y : PV} {K J : PV → Prop} (h : bin2 T t o x y K) (hk : ∀ v, K v → J v) : bin2 T t o x y J := by
  obtain ⟨v, h1, h2⟩ := bin2_is h
  exact h2 J (hk v h1)
theorem bounds_k {n : Nat} {lo hi : Option PV} {K J : Nat → Nat → Prop} (h : bounds n lo hi K) (hk : ∀ l m, K l m → J l m) : bounds n lo hi J := by
  obtain ⟨l, m, h1, h2⟩ := bounds_is h
  exact h2 J (hk l m h1)
theorem elemT_some {t : TypeId} {ee : TE} (h : elemT T (T t) = some ee) : ∃ te e, T t = some te ∧ te.ti = .slice e ∧ T e = some ee := by
  cases ht : T t with
  | none => rw [ht] at h; cases h
  | some te =>
    rw [ht] at h
    obtain ⟨ti, sz, by', z⟩ := te
    cases ti <;> try cases h
    exact ⟨_, _, rfl, rfl, h⟩
theorem fieldT_some {t : TypeId} {f off : Nat} {o : Option TE} (h : fieldT T f (T t) = some (off, o)) : ∃ te fs ft, T t = some te ∧ te.ti = .struct fs ∧ fs[f]? = some (off, ft) ∧ T ft = o := by
  cases ht : T t with
  | none => rw [ht] at h; cases h
  | some te =>
    rw [ht] at h
    obtain ⟨ti, sz, by', z⟩ := te
    cases ti
    case struct fs =>
      simp only [fieldT] at h
      cases hf : fs[f]? with
      | none => rw [hf] at h; cases h
      | some p => rw [hf] at h; cases h; exact ⟨_, fs, p.2, rfl, rfl, hf, rfl⟩
    all_goals cases h
theorem arrT_some {t : TypeId} {m : Nat} {o : Option TE} (h : arrT T (T t) = some (m, o)) : ∃ te e, T t = some te ∧ te.ti = .arr m e ∧ T e = o := by
  cases ht : T t with
  | none => rw [ht] at h; cases h
  | some te =>
    rw [ht] at h
    obtain ⟨ti, sz, by', z⟩ := te
    cases ti <;> try cases h
    exact ⟨_, _, rfl, rfl, rfl⟩


theorem vop_popv {d : Option Tmp} {op : Op} {ty : TypeId} {pos : String} {af : Array Edge} {g : Option (Nat × Bool)} {K : PV → Hp → Prop} (h : vop P T d op K s) : popv P T ⟨d, op, ty, pos, af, g⟩ K s := by
  cases op <;> try exact h.elim
  case move x => exact ⟨rfl, h⟩
  case assign x => exact ⟨rfl, h⟩
  case pick c a b =>
    simp only [vop] at h
    simp only [popv, qop]
    cases hc : s.ev c <;> rw [hc] at h <;> first | exact h.elim | exact ⟨rfl, h⟩
  case alloc e =>
    simp only [vop] at h
    simp only [popv, qop]
    cases he : T e with
    | none => rw [he] at h; exact h.elim
    | some te => rw [he] at h; exact ⟨by simpa using h.1, h.2⟩
  case box e x => exact ⟨h.1, by simpa using h.2.1, h.2.2⟩
  case build t ps =>
    simp only [vop] at h
    simp only [popv, qop]
    cases ht : T t with
    | none => rw [ht] at h; exact h.elim
    | some te =>
      rw [ht] at h
      obtain ⟨ti, sz, by', z⟩ := te
      cases ti <;> try exact h.elim
      case struct fs =>
        obtain ⟨ds, a, b⟩ := buildS_is (bdv_buildS h)
        exact b _ ⟨rfl, a⟩
      case arr m e =>
        simp only [buildv] at h
        simp only
        cases he : T e with
        | none => rw [he] at h; exact h.elim
        | some ee =>
          rw [he] at h
          obtain ⟨ds, a, b⟩ := buildS_is (bdv_buildS h)
          exact b _ ⟨rfl, a⟩
  case buildSlice t len ps =>
    simp only [vop] at h
    simp only [popv, qop]
    cases he : elemT T (T t) with
    | none => rw [he] at h; exact h.elim
    | some ee =>
      rw [he] at h
      obtain ⟨te, e, h1, h2, h3⟩ := elemT_some he
      obtain ⟨a1, a2, a3, a4, a5, a6, a7⟩ := h
      simp only [h1, h2, h3]
      exact ⟨a1, a2, a3, by simpa using a4, a5, by simpa using a6, a7⟩
  case makeSlice t l c =>
    simp only [vop] at h
    simp only [popv, qop]
    cases he : elemT T (T t) with
    | none => rw [he] at h; exact h.elim
    | some ee =>
      rw [he] at h
      obtain ⟨te, e, h1, h2, h3⟩ := elemT_some he
      simp only [h1, h2, h3]
      cases hl : s.ev l <;> rw [hl] at h <;> try exact h.elim
      cases hc : s.ev c <;> rw [hc] at h <;> try exact h.elim
      obtain ⟨a1, a2, a3, a4, a5, a6, a7⟩ := h
      exact ⟨a1, a2, a3, a4, a5, by simpa using a6, a7⟩
  case load t a =>
    simp only [vop] at h
    simp only [popv, qop]
    cases ht : T t with
    | none => rw [ht] at h; exact h.elim
    | some te =>
      rw [ht] at h
      cases hc : cellsAt s.hp (s.ev a) with
      | none => rw [hc] at h; exact h.elim
      | some cs =>
        rw [hc] at h
        simp only [ldv] at h
        simp only
        cases hb : te.ti.agg <;> rw [hb] at h
        · exact ⟨h.1, rfl, h.2⟩
        · exact ⟨h.1, h.2.1, rfl, h.2.2⟩
  case nilCheck x =>
    obtain ⟨h1, h2⟩ := nilv_iff h
    exact ⟨h1, rfl, h2⟩
  case binOp o t x y u =>
    simp only [vop] at h
    simp only [popv, qop]
    cases hn : isNil y <;> rw [hn] at h
    · rw [if_neg (by simp)]
      exact bin_k0 h fun v hv => ⟨rfl, hv⟩
    · rw [if_pos rfl]
      obtain ⟨v, c, h1, h2⟩ := One.ifn (b := isIf T t) (op := o) (x := s.ev x) (fun v _ => K v []) h
      exact h2 (fun v _ => _ ∧ K v []) ⟨rfl, h1⟩
  case makeInterface t x =>
    simp only [vop] at h
    simp only [popv, qop]
    unfold mki at h ⊢
    split at h
    · exact ⟨rfl, h⟩
    · exact h.elim
  case unOp o t x =>
    simp only [vop] at h
    simp only [popv, qop]
    cases hx : s.ev x <;> rw [hx] at h <;> cases o <;> first | exact h.elim | exact ⟨rfl, h⟩
  case convert src dst x =>
    simp only [vop] at h
    simp only [popv, qop]
    cases hs : T src with
    | none => rw [hs] at h; exact (show False from h)
    | some te =>
      cases hd : T dst with
      | none =>
        have e : ck T (some te) none = .no := by obtain ⟨ti, _, _, _⟩ := te; cases ti <;> rfl
        rw [hs, hd, e] at h
        exact h.elim
      | some de =>
        rw [hs, hd] at h
        obtain ⟨ti, sz, by', z⟩ := te
        obtain ⟨di, dz, db, dzz⟩ := de
        have u8 : ∀ {o : Option TE}, isU8 o = true → ∃ ee, o = some ee ∧ ee.ti = .int .u8 ∧ ee.sz = 1 := fun {o} hu => by
          unfold isU8 at hu
          split at hu
          · exact ⟨_, rfl, rfl, rfl⟩
          · cases hu
        cases di <;> simp only
        case int k =>
          have e : ck T (some ⟨ti, sz, by', z⟩) (some ⟨.int k, dz, db, dzz⟩) = .int k := by cases ti <;> rfl
          rw [e] at h
          cases hx : s.ev x <;> rw [hx] at h <;> first | exact h.elim | exact ⟨rfl, h⟩
        case str =>
          cases ti
          case slice e =>
            simp only [ck] at h
            split at h
            · rename_i hu
              obtain ⟨ee, e1, e2, e3⟩ := u8 hu
              simp only [convv] at h
              cases hel : elems s.hp (s.ev x) with
              | none => rw [hel] at h; exact h.elim
              | some xs =>
                rw [hel] at h
                have hx : ∀ b, s.ev x ≠ .str b := fun b hb => by rw [hb] at hel; cases hel
                simp only [e1]
                have key : ∃ xs, elems s.hp (s.ev x) = some xs ∧ (∀ z ∈ xs, isByte z) ∧ ([] : Hp).isEmpty = true ∧ K (.str (strP xs)) [] := ⟨xs, hel, h.1, rfl, h.2⟩
                cases hxx : s.ev x <;> first
                  | exact absurd hxx (hx _)
                  | (rw [hxx] at key; obtain ⟨ys, k1, k2, _, k4⟩ := key; simp only [e2]; exact ⟨e3, ys, k1, k2, rfl, k4⟩)
            · exact h.elim
          all_goals
            simp only [ck, convv] at h
            cases hx : s.ev x <;> rw [hx] at h <;> first | exact h.elim | exact ⟨rfl, h⟩
        case slice e =>
          cases ti <;> try exact h.elim
          simp only [ck] at h
          split at h
          · rename_i hu
            obtain ⟨ee, e1, e2, e3⟩ := u8 hu
            cases hx : s.ev x <;> rw [hx] at h <;> try exact h.elim
            simp only [e1, e2]
            exact ⟨e3, trivial, by simpa using h.1, h.2⟩
          · exact h.elim
        all_goals cases ti <;> exact h.elim
  case slice t x lo hi mx =>
    cases mx with
    | some m =>
      cases lo with
      | none => exact h.elim
      | some lo =>
      cases hi with
      | none => exact h.elim
      | some hi =>
      simp only [vop] at h
      simp only [popv, qop]
      cases he : elemT T (T t) with
      | none => rw [he] at h; cases hx : s.ev x <;> rw [hx] at h <;> exact h.elim
      | some ee =>
        obtain ⟨te, e, h1, h2, h3⟩ := elemT_some he
        cases hx : s.ev x <;> rw [hx, he] at h <;> try exact h.elim
        rename_i g n
        simp only [slv3] at h
        simp only [h1, h2]
        cases hg : hget s.hp g with
        | none => rw [hg] at h; exact h.elim
        | some c =>
          rw [hg] at h
          cases c <;> try exact h.elim
          exact ⟨h.1, by rw [h3]; rfl, h.2.1, rfl, h.2.2⟩
    | none =>
    simp only [vop] at h
    simp only [popv, qop]
    cases hx : s.ev x <;> rw [hx] at h <;> simp only <;> try (unfold slv at h; exact h.elim)
    case ref b off =>
      cases off with
      | succ _ => unfold slv at h; exact h.elim
      | zero =>
      simp only [slv] at h
      cases ha : arrT T (T t) with
      | none => rw [ha] at h; exact h.elim
      | some p =>
        obtain ⟨m, o⟩ := p
        obtain ⟨te, e, h1, h2, h3⟩ := arrT_some ha
        rw [ha] at h
        simp only at h
        cases o with
        | none => exact h.elim
        | some ee =>
          simp only [eop, h1, h2, h3, hx]
          cases hg : hget s.hp b with
          | none => rw [hg] at h; exact h.elim
          | some c =>
            rw [hg] at h
            cases c <;> first | exact h.elim | (simp only [h3]; exact ⟨h.1, h.2.1, h.2.2.1, bounds_k h.2.2.2 fun l m hk => hk⟩)
    case str b =>
      cases ht : T t with
      | none => rw [ht] at h; exact h.elim
      | some te =>
        rw [ht] at h
        obtain ⟨ti, sz, by', z⟩ := te
        cases ti <;> try exact h.elim
        exact bounds_k h fun l m hk => ⟨rfl, hk⟩
    case far xs =>
      cases he : elemT T (T t) with
      | none => rw [he] at h; cases hh : T t <;> rw [hh] at h <;> exact h.elim
      | some ee =>
        obtain ⟨te, e, h1, h2, h3⟩ := elemT_some he
        rw [he, h1] at h
        simp only [h1, h2]
        exact ⟨⟨ee, h3, h.1⟩, bounds_k h.2 fun l m hk => ⟨rfl, hk⟩⟩
    case row g n =>
      cases he : elemT T (T t) with
      | none => rw [he] at h; cases hh : T t <;> rw [hh] at h <;> exact h.elim
      | some ee =>
        obtain ⟨te, e, h1, h2, h3⟩ := elemT_some he
        rw [he, h1] at h
        simp only [h1, h2]
        simp only [slv] at h
        cases hg : hget s.hp g with
        | none => rw [hg] at h; exact h.elim
        | some c =>
          rw [hg] at h
          cases c <;> try exact h.elim
          exact ⟨h.1, ⟨ee, h3, h.2.1⟩, bounds_k h.2.2 fun l m hk => ⟨rfl, hk⟩⟩
    case view g n l0 h0 =>
      cases l0 with
      | succ l0 => exact h.elim
      | zero =>
      cases he : elemT T (T t) with
      | none => rw [he] at h; cases hh : T t <;> rw [hh] at h <;> exact h.elim
      | some ee =>
        obtain ⟨te, e, h1, h2, h3⟩ := elemT_some he
        rw [he, h1] at h
        simp only [h1, h2]
        simp only [slv] at h
        cases hg : hget s.hp g with
        | none => rw [hg] at h; exact h.elim
        | some c =>
          rw [hg] at h
          cases c <;> try exact h.elim
          refine ⟨h.1, trivial, ⟨ee, h3, h.2.1⟩, ?_⟩
          have h4 := h.2.2
          rw [Option.isSome_map] at h4
          exact bounds_k h4 fun l m hk => ⟨rfl, hk⟩
  case fieldAddr t x f =>
    simp only [vop] at h
    simp only [popv, qop]
    cases hf : fieldT T f (T t) with
    | none => rw [hf] at h; cases hx : s.ev x <;> rw [hx] at h <;> exact h.elim
    | some p =>
      obtain ⟨off, o⟩ := p
      obtain ⟨te, fs, ft, h1, h2, h3, h4⟩ := fieldT_some hf
      rw [hf] at h
      cases o with
      | none => cases hx : s.ev x <;> rw [hx] at h <;> exact h.elim
      | some fe =>
        simp only [h1, h2, h3, h4]
        obtain ⟨a1, a2⟩ : 0 < fe.sz ∧ nilv (s.ev x) (fad K off (s.ev x)) (cellsAt s.hp (s.ev x)) := by cases hx : s.ev x <;> rw [hx] at h <;> exact h
        obtain ⟨b1, b2⟩ := nilv_iff a2
        refine ⟨a1, b1, ?_⟩
        cases hx : s.ev x <;> rw [hx] at b2 <;> first | exact b2.elim | exact ⟨rfl, b2⟩
  case field t x f =>
    simp only [vop] at h
    simp only [popv, qop]
    cases hf : fieldT T f (T t) with
    | none => rw [hf] at h; cases hx : s.ev x <;> rw [hx] at h <;> exact h.elim
    | some p =>
      obtain ⟨off, o⟩ := p
      obtain ⟨te, fs, ft, h1, h2, h3, h4⟩ := fieldT_some hf
      rw [hf] at h
      cases o with
      | none => cases hx : s.ev x <;> rw [hx] at h <;> exact h.elim
      | some fe =>
        simp only [h1, h2, h3, h4]
        cases hx : s.ev x <;> rw [hx] at h <;> try exact h.elim
        simp only [fldv] at h
        simp only
        cases hb : fe.ti.agg <;> rw [hb] at h
        · exact ⟨h.1, rfl, h.2⟩
        · exact ⟨h.1, rfl, h.2⟩
  case indexAddr t x i =>
    simp only [vop] at h
    simp only [popv, qop]
    cases hx : s.ev x <;> rw [hx] at h <;> try (unfold ixav at h; exact h.elim)
    case ref b off =>
      cases hi : s.ev i <;> rw [hi] at h <;> try (unfold ixav at h; exact h.elim)
      cases ha : arrT T (T t) with
      | none => rw [ha] at h; unfold ixav at h; exact h.elim
      | some p =>
        obtain ⟨m, o⟩ := p
        obtain ⟨te, e, h1, h2, h3⟩ := arrT_some ha
        rw [ha] at h
        cases o with
        | none => unfold ixav at h; exact h.elim
        | some ee =>
          simp only [ixav] at h
          obtain ⟨b1, b2⟩ := nilv_iff h
          simp only [h1, h2, h3]
          exact ⟨b1, b2.1, b2.2.1, rfl, b2.2.2⟩
    case fel xs =>
      cases hi : s.ev i <;> rw [hi] at h <;> try (unfold ixav at h; exact h.elim)
      cases ha : arrT T (T t) with
      | none => rw [ha] at h; unfold ixav at h; exact h.elim
      | some p =>
        obtain ⟨m, o⟩ := p
        obtain ⟨te, e, h1, h2, h3⟩ := arrT_some ha
        rw [ha] at h
        cases o with
        | none => unfold ixav at h; exact h.elim
        | some ee =>
          simp only [ixav] at h
          simp only [h1, h2, h3]
          exact ⟨h.1, h.2.1, rfl, h.2.2⟩
    case far xs =>
      cases hi : s.ev i <;> rw [hi] at h <;> try (unfold ixav at h; exact h.elim)
      cases he : elemT T (T t) with
      | none => rw [he] at h; unfold ixav at h; exact h.elim
      | some ee =>
      obtain ⟨te, e, h1, h2, h3⟩ := elemT_some he
      rw [he] at h
      simp only [h1, h2, h3]
      simp only [ixav] at h
      exact ⟨h.1, h.2.1, h.2.2.1, rfl, h.2.2.2⟩
    case row g n =>
      cases hi : s.ev i <;> rw [hi] at h <;> try (unfold ixav at h; exact h.elim)
      cases he : elemT T (T t) with
      | none => rw [he] at h; unfold ixav at h; exact h.elim
      | some ee =>
      obtain ⟨te, e, h1, h2, h3⟩ := elemT_some he
      rw [he] at h
      simp only [h1, h2, h3]
      simp only [ixav] at h
      cases hg : hget s.hp g with
      | none => rw [hg] at h; exact h.elim
      | some c =>
        rw [hg] at h
        cases c <;> try exact h.elim
        exact ⟨h.1, h.2.1, h.2.2.1, h.2.2.2.1, rfl, h.2.2.2.2⟩
    case view g n lo hi =>
      cases hi : s.ev i <;> rw [hi] at h <;> try (unfold ixav at h; exact h.elim)
      cases he : elemT T (T t) with
      | none => rw [he] at h; unfold ixav at h; exact h.elim
      | some ee =>
      obtain ⟨te, e, h1, h2, h3⟩ := elemT_some he
      rw [he] at h
      simp only [h1, h2, h3]
      simp only [ixav] at h
      cases hg : hget s.hp g with
      | none => rw [hg] at h; exact h.elim
      | some c =>
        rw [hg] at h
        cases c <;> try exact h.elim
        exact ⟨h.1, h.2.1, h.2.2.1, h.2.2.2.1, rfl, h.2.2.2.2⟩
  case index t x i =>
    simp only [vop] at h
    simp only [popv, qop]
    cases hx : s.ev x <;> rw [hx] at h <;> try (unfold ixv at h; exact h.elim)
    case str b =>
      cases hi : s.ev i <;> rw [hi] at h <;> try (unfold ixv at h; exact h.elim)
      cases ht : T t with
      | none => rw [ht] at h; exact h.elim
      | some te =>
        rw [ht] at h
        obtain ⟨ti, sz, by', z⟩ := te
        cases ti <;> try (unfold ixv at h; exact h.elim)
        exact ⟨h.1, h.2.1, rfl, h.2.2⟩
    case agg cs =>
      cases hi : s.ev i <;> rw [hi] at h <;> try (unfold ixv at h; exact h.elim)
      cases ha : arrT T (T t) with
      | none => rw [ha] at h; unfold ixv at h; exact h.elim
      | some p =>
        obtain ⟨m, o⟩ := p
        obtain ⟨te, e, h1, h2, h3⟩ := arrT_some ha
        rw [ha] at h
        cases o with
        | none => unfold ixv at h; exact h.elim
        | some ee =>
          simp only [ixv] at h
          simp only [h1, h2, h3]
          exact ⟨h.1, h.2.1, h.2.2.1, h.2.2.2.1, rfl, h.2.2.2.2⟩
  case extract t i =>
    simp only [vop] at h
    simp only [popv, qop]
    cases hx : s.ev t <;> rw [hx] at h <;> try exact h.elim
    exact ⟨h.1, rfl, h.2⟩
  case makeFunc f first caps =>
    obtain ⟨h1, h2⟩ := h
    exact ⟨by simpa using h1, rfl, h2⟩
  case store t x v =>
    simp only [vop] at h
    simp only [popv, eop]
    cases ht : T t with
    | none => rw [ht] at h; cases hx : s.ev x <;> rw [hx] at h <;> exact h.elim
    | some te =>
      rw [ht] at h
      cases hx : s.ev x <;> rw [hx] at h <;> try exact h.elim
      · obtain ⟨a1, a2, a3, a4⟩ := h
        refine ⟨a1, a2, a3, ?_⟩
        rename_i g n i off
        simp only
        cases hg : hget s.hp g with
        | none => rw [hg] at a4; exact a4.elim
        | some c =>
          rw [hg] at a4
          cases c <;> first | exact a4.elim | exact a4
      · obtain ⟨a1, a2, a3, a4⟩ := h
        refine ⟨a1, a2, a3, ?_⟩
        rename_i b off
        simp only
        cases hg : hget s.hp b with
        | none => rw [hg] at a4; exact a4.elim
        | some c =>
          rw [hg] at a4
          cases c <;> first | exact a4.elim | exact a4
  case call c =>
    obtain ⟨cal, args, ts⟩ := c
    cases cal with
    | invoke f m => exact h.elim
    | value f =>
      simp only [vop] at h
      simp only [popv]
      cases hf : s.ev f <;> rw [hf] at h <;> try exact h.elim
      rename_i fn caps
      cases fn <;> first | exact h.elim | exact h
    | builtin b =>
      simp only [vop] at h
      unfold biv at h
      split at h
      · rename_i x y t u ha hts
        simp only [popv, eop, ha, hts, List.map_cons, List.map_nil]
        cases he : elemT T (T t) with
        | none => rw [he] at h; exact h.elim
        | some ee =>
          obtain ⟨te, e, h1, h2, h3⟩ := elemT_some he
          have hei : elemI (T t) = e := by
            rw [h1]
            obtain ⟨ti, _, _, _⟩ := te
            simp only at h2
            subst h2
            rfl
          rw [he, hei] at h
          cases hu : (isSl (T u) || isStr (T u)) with
          | false => rw [hu] at h; exact h.elim
          | true =>
            rw [hu] at h
            cases hy : appd s.hp (s.ev y) with
            | none => rw [hy] at h; exact h.elim
            | some ys =>
              rw [hy] at h
              obtain ⟨a1, a2, a3, a4⟩ := h
              cases hue : T u with
              | none => rw [hue] at hu; cases hu
              | some ue =>
                simp only [h1, h2, h3]
                refine ⟨?_, a1, a2, ys, rfl, a3, ?_⟩
                · rw [hue] at hu
                  obtain ⟨ui, _, _, _⟩ := ue
                  cases ui <;> first | rfl | cases hu
                · cases hx : s.ev x <;> rw [hx] at a4 <;> try exact a4.elim
                  · exact ⟨by simpa using a4.1, a4.2.1, a4.2.2.1, a4.2.2.2⟩
                  · rename_i g n
                    simp only [apx] at a4
                    simp only
                    cases hg : hget s.hp g with
                    | none => rw [hg] at a4; exact a4.elim
                    | some c =>
                      rw [hg] at a4
                      cases c <;> first | exact a4.elim | exact a4
                  · rename_i g n lo hi
                    simp only [apx] at a4
                    simp only
                    cases hg : hget s.hp g with
                    | none => rw [hg] at a4; exact a4.elim
                    | some c =>
                      rw [hg] at a4
                      cases c <;> first | exact a4.elim | exact a4
      · rename_i x t ha hts
        simp only [popv, qop, ha, hts, List.map_cons, List.map_nil]
        have sl : isSl (T t) = true → lenOk T [t] true = true := fun hs => by
          unfold lenOk
          cases ht : T t with
          | none => rw [ht] at hs; cases hs
          | some te =>
            rw [ht] at hs
            obtain ⟨ti, _, _, _⟩ := te
            cases ti <;> first | (simp only [ht]; done) | cases hs
        have st : isStr (T t) = true → lenOk T [t] false = true := fun hs => by
          unfold lenOk
          cases ht : T t with
          | none => rw [ht] at hs; cases hs
          | some te =>
            rw [ht] at hs
            obtain ⟨ti, _, _, _⟩ := te
            cases ti <;> first | (simp only [ht, Bool.not_false]; done) | cases hs
        cases hel : elems s.hp (s.ev x) with
        | none =>
          rw [hel] at h
          cases hx : s.ev x <;> rw [hx] at h <;> try exact h.elim
          cases hs : isStr (T t) with
          | false => rw [hs] at h; exact h.elim
          | true => rw [hs] at h; exact ⟨st hs, rfl, h⟩
        | some xs =>
          rw [hel] at h
          cases hs : isSl (T t) with
          | false => rw [hs] at h; cases hx : s.ev x <;> rw [hx] at h <;> exact h.elim
          | true =>
            rw [hs] at h
            have hK : K (.int .i64 xs.length) [] := by cases hx : s.ev x <;> rw [hx] at h <;> exact h
            cases hx : s.ev x <;> rw [hx] at hel <;> first
              | exact ⟨sl hs, xs, rfl, rfl, hK⟩
              | (cases hel; done)
      · rename_i x y ha
        simp only [popv, qop, ha, List.map_cons, List.map_nil]
        cases hx : s.ev x <;> rw [hx] at h <;> try exact h.elim
        cases hy : s.ev y <;> rw [hy] at h <;> try exact h.elim
        exact ⟨h.1, rfl, h.2⟩
      · rename_i x y ha
        simp only [popv, qop, ha, List.map_cons, List.map_nil]
        cases hx : s.ev x <;> rw [hx] at h <;> try exact h.elim
        cases hy : s.ev y <;> rw [hy] at h <;> try exact h.elim
        exact ⟨h.1, rfl, h.2⟩
      · rename_i x t ha hts
        simp only [popv, eop, ha, hts, List.map_cons, List.map_nil]
        cases hx : s.ev x <;> rw [hx] at h <;> try (unfold clv at h; exact h.elim)
        cases he : elemT T (T t) with
        | none => rw [he] at h; exact h.elim
        | some ee =>
          obtain ⟨te, e, h1, h2, h3⟩ := elemT_some he
          rw [he] at h
          simp only [clv] at h
          simp only [h1, h2, h3]
          rename_i g n lo hi
          cases hg : hget s.hp g with
          | none => rw [hg] at h; exact h.elim
          | some c =>
            rw [hg] at h
            cases c <;> first | exact h.elim | exact h
      · exact h.elim

end Go.Pv

/- A text's run in plain values, as a condition that is reckoned from its beginning: it comes to one end. -/
namespace Go.Pv
open Go.RowKit

variable {P : Program} {T : Tab} {s : St} {key : Nat}

/-- The text comes from s to one end, of which Q holds. -/
def DSem (P : Program) (c : Code) (s : St) (Q : PE → St → Prop) : Prop := ∃ e s', Q e s' ∧ Sem P c s fun e2 s2 => e2 = e ∧ s2 = s'

def toQ (N : St → Prop) (X : Nat → St → Prop) (R : St → Prop) : PE → St → Prop
  | .normal, s => N s
  | .exit i, s => X i s
  | .ret, s => R s
def exs (id : Nat) (N : St → Prop) (X : Nat → St → Prop) (i : Nat) (s : St) : Prop := if i = id then N s else X i s
def br (b : Bool) (A B : St → Prop) (s : St) : Prop := (b = true → A s) ∧ (b = false → B s)
def brv : PV → (St → Prop) → (St → Prop) → St → Prop
  | .bool b, A, B, s => br b A B s
  | _, _, _, _ => False
def brg : PV → Bool → (St → Prop) → (St → Prop) → St → Prop
  | .bool b, true, A, B, s => br b A B s
  | .bool b, false, A, B, s => br b B A s
  | .raw (.tuple _), _, _, B, s => B s
  | _, _, _, _, _ => False
def kp (s : St) (d : Option Tmp) (K : St → Prop) (v : PV) (c : Hp) : Prop := K (s.put d v c)
def op1 (P : Program) (T : Tab) (d : Option Tmp) (op : Op) (K : St → Prop) (s : St) : Prop := vop P T d op (kp s d K) s
def skp (d : Option Tmp) (K : St → Prop) (s : St) : Prop := K (s.put d (.raw undef) [])
def nthd : List (Option Tmp) → Nat → St → PV
  | some d :: _, 0, s => tget s.tm d
  | _ :: r, j + 1, s => nthd r j s
  | _, _, _ => .junk
def vops (P : Program) (T : Tab) (ds : List (Option Tmp)) (K : St → Prop) : List Oper → St → Prop
  | [], s => K s
  | ⟨d, op, _, _, _, none⟩ :: r, s => dstOk s d ∧ op1 P T d op (vops P T ds K r) s
  | ⟨d, op, _, _, _, some (j, w)⟩ :: r, s => dstOk s d ∧ brg (nthd ds j s) w (op1 P T d op (vops P T ds K r)) (skp d (vops P T ds K r)) s
theorem nthd_some : ∀ {ds : List (Option Tmp)} {j : Nat} {s : St} {x : PV}, nthd ds j s = x → x ≠ .junk → ∃ d, nth ds j = some d ∧ tget s.tm d = x
  | some d :: _, 0, s, x, h, _ => ⟨d, rfl, h⟩
  | none :: _, 0, s, x, h, hx => absurd h.symm hx
  | [], _, s, x, h, hx => absurd h.symm hx
  | some _ :: r, j + 1, s, x, h, hx => nthd_some (ds := r) h hx
  | none :: r, j + 1, s, x, h, hx => nthd_some (ds := r) h hx
theorem op1_pop {d : Option Tmp} {op : Op} {ty : TypeId} {pos : String} {af : Array Edge} {g : Option (Nat × Bool)} {K J : St → Prop} (hd : dstOk s d) (h : op1 P T d op K s) (hk : ∀ s, K s → J s) : pop P T ⟨d, op, ty, pos, af, g⟩ J s := by
  obtain ⟨v, c, a, b⟩ := popv_one _ _ (vop_popv (ty := ty) (pos := pos) (af := af) (g := g) h)
  exact ⟨hd, b _ (hk _ a)⟩
theorem vops_pops {ds : List (Option Tmp)} {K : St → Prop} : ∀ {l : List Oper} {s : St}, vops P T ds K l s → pops P T ds K l s
  | [], s, h => h
  | ⟨d, op, ty, pos, af, none⟩ :: r, s, h => op1_pop (J := pops P T ds K r) h.1 h.2 fun s => vops_pops
  | ⟨d, op, ty, pos, af, some (j, w)⟩ :: r, s, ⟨h1, h2⟩ => by
    have A := fun h => op1_pop (P := P) (T := T) (op := op) (ty := ty) (pos := pos) (af := af) (g := some (j, w)) (J := pops P T ds K r) h1 h fun s => vops_pops
    have B : skp d (vops P T ds K r) s → pops P T ds K r (s.put d (.raw undef) []) := vops_pops
    simp only [pops]
    cases hx : nthd ds j s <;> rw [hx] at h2 <;> try exact h2.elim
    case bool b =>
      obtain ⟨d1, e1, e2⟩ := nthd_some hx (by simp)
      rw [e1]
      simp only [e2]
      refine ⟨h1, ?_⟩
      cases w
      · exact ⟨fun e => A (h2.2 e), fun e => B (h2.1 e)⟩
      · exact ⟨fun e => A (h2.1 e), fun e => B (h2.2 e)⟩
    case raw v =>
      obtain ⟨d1, e1, e2⟩ := nthd_some hx (by simp)
      rw [e1]
      simp only [e2]
      refine ⟨h1, ?_⟩
      cases v <;> try exact h2.elim
      exact B h2
def Lp (P : Program) (T : Tab) (c : Code) (_N : St → Prop) (X : Nat → St → Prop) (R : St → Prop) (s : St) : Prop := Tok P T → DSem P (.loop c) s (toQ (fun _ => False) X R)
def Dr (P : Program) (T : Tab) (id : Nat) (ops : Array Oper) (N : St → Prop) (s : St) : Prop := Tok P T → ∃ s', N s' ∧ Sem P (.region id ops true) s fun e2 s2 => e2 = .normal ∧ s2 = s'

def vc (P : Program) (T : Tab) : Code → (St → Prop) → (Nat → St → Prop) → (St → Prop) → St → Prop
  | .skip, N, _, _ => N
  | .region id ops draw, N, _, _ => match draw with
    | false => vops P T (ops.toList.map (·.dst)) N ops.toList
    | true => Dr P T id ops N
  | .seq x y, N, X, R => vc P T x (vc P T y N X R) X R
  | .cond c x y, N, X, R => fun s => brv (s.ev c) (vc P T x N X R) (vc P T y N X R) s
  | .block id c, N, X, R => vc P T c N (exs id N X) R
  | .loop c, N, X, R => Lp P T c N X R
  | .exit id, _, X, _ => X id
  | .ret, _, _, R => R
  | _, _, _, _ => fun _ => False

theorem sem_and {c : Code} {Q : PE → St → Prop} {e : PE} {s' : St} (h : Sem P c s fun e2 s2 => e2 = e ∧ s2 = s') (q : Q e s') : Sem P c s Q := sem_mono h fun _ _ ⟨e1, e2⟩ => e1 ▸ e2 ▸ q

theorem vc_sound (hT : Tok P T) : ∀ (c : Code) (N : St → Prop) (X : Nat → St → Prop) (R : St → Prop) (s : St), vc P T c N X R s → DSem P c s (toQ N X R)
  | .skip, N, X, R, s, h => ⟨.normal, s, h, fun w0 V M Γ0 h0 a w R => wp_skip ⟨s, R, rfl, rfl⟩⟩
  | .region id ops draw, N, X, R, s, h => by
    cases draw with
    | true =>
      obtain ⟨s', h1, h2⟩ := h hT
      exact ⟨.normal, s', h1, h2⟩
    | false =>
      obtain ⟨s', h1, h2⟩ := pops_is (vops_pops h)
      refine ⟨.normal, s', h1, pw_sound hT _ _ s ?_⟩
      exact h2 _ ⟨rfl, rfl⟩
  | .seq x y, N, X, R, s, h => by
    obtain ⟨e, s1, h1, h2⟩ := vc_sound hT x _ X R s h
    cases e
    case normal =>
      obtain ⟨e2, s2, h3, h4⟩ := vc_sound hT y N X R s1 h1
      refine ⟨e2, s2, h3, fun w0 V M Γ0 h0 a w R => wp_seq (wp_mono (h2 w0 V M Γ0 h0 a w R) fun e a' w' ⟨s', R', hq⟩ => ?_)⟩
      cases e <;> first
        | (obtain ⟨_, rfl⟩ := hq; exact h4 w0 V M Γ0 h0 a' w' R')
        | exact PE.noConfusion hq.1
        | exact hq.elim
    all_goals
      first | refine ⟨.ret, s1, h1, fun w0 V M Γ0 h0 a w R => wp_seq (wp_mono (h2 w0 V M Γ0 h0 a w R) fun e a' w' ⟨s', R', hq⟩ => ?_)⟩ | refine ⟨.exit _, s1, h1, fun w0 V M Γ0 h0 a w R => wp_seq (wp_mono (h2 w0 V M Γ0 h0 a w R) fun e a' w' ⟨s', R', hq⟩ => ?_)⟩
      cases e <;> first
        | exact PE.noConfusion hq.1
        | exact ⟨s', R', hq⟩
        | exact hq.elim
  | .cond c x y, N, X, R, s, h => by
    simp only [vc] at h
    cases hcc : s.ev c <;> rw [hcc] at h <;> try exact False.elim h
    rename_i b
    cases b
    · obtain ⟨e, s1, h1, h2⟩ := vc_sound hT y N X R s (h.2 rfl)
      exact ⟨e, s1, h1, fun w0 V M Γ0 h0 a w ⟨Γ, R⟩ => wp_cond_split (vr_bool (hcc ▸ R.ev c)) (fun e => Bool.noConfusion e) fun _ => h2 w0 V M Γ0 h0 a w ⟨Γ, R⟩⟩
    · obtain ⟨e, s1, h1, h2⟩ := vc_sound hT x N X R s (h.1 rfl)
      exact ⟨e, s1, h1, fun w0 V M Γ0 h0 a w ⟨Γ, R⟩ => wp_cond_split (vr_bool (hcc ▸ R.ev c)) (fun _ => h2 w0 V M Γ0 h0 a w ⟨Γ, R⟩) fun e => Bool.noConfusion e⟩
  | .block id c, N, X, R, s, h => by
    obtain ⟨e, s1, h1, h2⟩ := vc_sound hT c N (exs id N X) R s h
    have go : ∀ e', (∀ i, e = .exit i → if i = id then e' = .normal else e' = .exit i) → (e = .normal → e' = .normal) → (e = .ret → e' = .ret) → Sem P (.block id c) s fun e2 s2 => e2 = e' ∧ s2 = s1 := fun e' g1 g2 g3 w0 V M Γ0 h0 a w R => by
      refine wp_block (wp_mono (h2 w0 V M Γ0 h0 a w R) fun e a' w' ⟨s', R', hq⟩ => ?_)
      cases e
      case exit =>
        rename_i j _
        obtain ⟨q1, rfl⟩ := hq
        have := g1 j q1.symm
        simp only [Exit.inBlock]
        split
        · rename_i e; rw [if_pos e] at this; subst this; exact ⟨s', R', rfl, rfl⟩
        · rename_i e; rw [if_neg e] at this; subst this; exact ⟨s', R', rfl, rfl⟩
      case normal => obtain ⟨q1, rfl⟩ := hq; exact ⟨s', R', (g2 q1.symm).symm, rfl⟩
      case ret => obtain ⟨q1, rfl⟩ := hq; exact ⟨s', R', (g3 q1.symm).symm, rfl⟩
      all_goals exact hq.elim
    cases e with
    | normal => exact ⟨.normal, s1, h1, go _ (fun _ e => PE.noConfusion e) (fun _ => rfl) (fun e => PE.noConfusion e)⟩
    | ret => exact ⟨.ret, s1, h1, go _ (fun _ e => PE.noConfusion e) (fun e => PE.noConfusion e) (fun _ => rfl)⟩
    | exit i =>
      by_cases hi : i = id
      · exact ⟨.normal, s1, by simpa [toQ, exs, hi] using h1, go _ (fun j e => by cases e; rw [if_pos hi]) (fun e => PE.noConfusion e) (fun e => PE.noConfusion e)⟩
      · exact ⟨.exit i, s1, by simpa [toQ, exs, hi] using h1, go _ (fun j e => by cases e; rw [if_neg hi]) (fun e => PE.noConfusion e) (fun e => PE.noConfusion e)⟩
  | .loop c, N, X, R, s, h => by
    obtain ⟨e, s1, h1, h2⟩ := h hT
    exact ⟨e, s1, by cases e <;> first | exact h1 | exact h1.elim, h2⟩
  | .exit id, N, X, R, s, h => ⟨.exit id, s, h, fun w0 V M Γ0 h0 a w R => wp_exit ⟨s, R, rfl, rfl⟩⟩
  | .ret, N, X, R, s, h => ⟨.ret, s, h, fun w0 V M Γ0 h0 a w R => wp_ret ⟨s, R, rfl, rfl⟩⟩
  | .rangeFunc _ _ _ _, _, _, _, _, h => h.elim
  | .scope _, _, _, _, _, h => h.elim
  | .label _, _, _, _, _, h => h.elim
  | .goto _, _, _, _, _, h => h.elim
  | .refuse _, _, _, _, _, h => h.elim

/-! ### Loops -/

inductive Rounds (P : Program) (c : Code) (e : PE) (s' : St) : Nat → St → Prop
  | last (n : Nat) (s : St) (h : Sem P c s fun e2 s2 => e2 = e ∧ s2 = s') (he : e ≠ .normal) : Rounds P c e s' n s
  | more (n : Nat) (s s1 s2 : St) (h : Sem P c s fun e2 s3 => e2 = .normal ∧ s3 = s1) (hs : Sub s2 s1) (h2 : Rounds P c e s' n s2) : Rounds P c e s' (n + 1) s

theorem Rounds.sem {c : Code} {e : PE} {s' : St} {n : Nat} (h : Rounds P c e s' n s) : Sem P (.loop c) s fun e2 s2 => e2 = e ∧ s2 = s' := fun w0 V M Γ0 h0 a w R => by
  refine wp_loop_nat (fun n a w => ∃ s, Rounds P c e s' n s ∧ Rel w0 V M Γ0 h0 s a w) (n := n) ⟨s, h, R⟩ fun n a w ⟨s, hI, R⟩ => ?_
  cases hI with
  | last _ _ h he =>
    refine wp_mono (h w0 V M Γ0 h0 a w R) fun e' a' w' ⟨s1, R1, q⟩ => ?_
    cases e' <;> first
      | exact q.elim
      | exact absurd q.1.symm he
      | exact ⟨s1, R1, q⟩
  | more n _ s1 s2 h hs h2 =>
    refine wp_mono (h w0 V M Γ0 h0 a w R) fun e' a' w' ⟨s3, R1, q⟩ => ?_
    cases e' <;> first
      | exact q.elim
      | exact PE.noConfusion q.1
      | (obtain ⟨_, rfl⟩ := q; exact ⟨n, Nat.lt_succ_self n, s2, h2, hs.rel R1⟩)

/-- A loop: what holds at its head, with a number that falls. -/
theorem lp_go {α : Type} (inv : α → St) (p : α → Prop) (μ : α → Nat) (x0 : α) {c : Code} {N : St → Prop} {X : Nat → St → Prop} {R : St → Prop} (h1 : Sub (inv x0) s) (h2 : p x0)
    (round : ∀ x, p x → ∀ N : St → Prop, (∀ y s1, p y → μ y < μ x → Sub (inv y) s1 → N s1) → vc P T c N X R (inv x)) : Lp P T c N X R s := fun hT => by
  have key : ∀ n x, μ x = n → p x → ∃ e s', toQ (fun _ => False) X R e s' ∧ ∃ n, Rounds P c e s' n (inv x) := fun n => by
    induction n using Nat.strongRecOn with
    | _ n ih =>
      intro x hn hp
      obtain ⟨e, s1, q1, q2⟩ := vc_sound hT c (fun s1 => ∃ y, p y ∧ μ y < μ x ∧ Sub (inv y) s1) X R _ (round x hp _ fun y s1 h1 h2 h3 => ⟨y, h1, h2, h3⟩)
      cases e
      case normal =>
        obtain ⟨y, py, hy, hs⟩ := q1
        obtain ⟨e, s', r1, k, r2⟩ := ih (μ y) (by omega) y rfl py
        exact ⟨e, s', r1, k + 1, .more k _ s1 _ q2 hs r2⟩
      · exact ⟨.exit _, s1, q1, 0, .last 0 _ q2 (fun e => PE.noConfusion e)⟩
      · exact ⟨.ret, s1, q1, 0, .last 0 _ q2 (fun e => PE.noConfusion e)⟩
  obtain ⟨e, s', r1, k, r2⟩ := key _ x0 rfl h2
  exact ⟨e, s', r1, sem_sub h1 r2.sem⟩

/-! ### Open regions -/

abbrev Row := List Nat × List Tmp × List Nat
def mkPlan : List Oper → List Row → Plan
  | o :: r, x :: xs => (o, x) :: mkPlan r xs
  | _, _ => []
structure Ck (b : Bool) : Prop where
  go : b = true
def ckAll (e : En) : List En → Bool
  | [] => true
  | x :: r => pair e x && ckAll e r
theorem ckAll_all {e : En} : ∀ {l : List En}, ckAll e l = true → l.all (pair e) = true
  | [], _ => rfl
  | x :: r, h => by
    simp only [ckAll, Bool.and_eq_true] at h
    simp only [List.all_cons, Bool.and_eq_true]
    exact ⟨h.1, ckAll_all h.2⟩
def dk (o : Oper) (an : List Nat) (i : Nat) (acc : List En) (J : List En → Prop) (st : St) (v : PV) (c : Hp) : Prop :=
  Ck (cl3 (told c st.hp) v && clHp (told c st.hp) c && ckAll ⟨i, an, o.dst, v, c, st⟩ acc) ∧ J (⟨i, an, o.dst, v, c, st⟩ :: acc)
def dm (o : Oper) (an : List Nat) (i : Nat) (acc : List En) (J : List En → Prop) (st : St) (v : PV) : Prop := Ck (ckAll ⟨i, an, o.dst, v, [], st⟩ acc) ∧ J (⟨i, an, o.dst, v, [], st⟩ :: acc)
def dop (P : Program) (T : Tab) (o : Oper) (an : List Nat) (i : Nat) (acc : List En) (J : List En → Prop) (st : St) : Prop := match mv o.op with
  | some x => dm o an i acc J st (st.ev x)
  | none => Ck (okSt st) ∧ vop P T o.dst o.op (dk o an i acc J st) st
def dsk (o : Oper) (an : List Nat) (i : Nat) (acc : List En) (J : List En → Prop) (st : St) : Prop := dm o an i acc J st (.raw undef)
def dg (P : Program) (T : Tab) (ds : List (Option Tmp)) (g : Option (Nat × Bool)) (o : Oper) (an : List Nat) (i : Nat) (acc : List En) (J : List En → Prop) (st : St) : Prop := match g with
  | none => dop P T o an i acc J st
  | some (j, want) => brg (nthd ds j st) want (dop P T o an i acc J) (dsk o an i acc J) st
def lka (an : List Nat) : List En → Tm → Tmp → PV
  | [], tm, t => tget tm t
  | e :: r, tm, t => if e.d = some t then (if an.contains e.i then e.v else lka an r tm t) else lka an r tm t
def happ (an : List Nat) : List En → Hp → Hp
  | [], hp => hp
  | e :: r, hp => happ1 an e.i e.c (happ an r hp)
where happ1 (an : List Nat) (i : Nat) : Hp → Hp → Hp
  | [], h => h
  | c, h => if an.contains i then c ++ h else h
def lkH : Option Operand → List Nat → Hp → Hp
  | some _, _, _ => []
  | none, ks, hp => ks.map (fun k => (k, HC.dead)) ++ hp
def look2 (m : Option Operand) (lo : List Tmp) (ks an : List Nat) (acc : List En) (s0 : St) : St := ⟨s0.n, lo.map fun t => (t, lka an acc s0.tm t), lkH m ks (happ an acc s0.hp)⟩
theorem lka_eq {an : List Nat} {s0 : St} {t : Tmp} : ∀ {acc : List En}, lka an acc s0.tm t = tget (app (ahead an acc) s0).tm t
  | [] => rfl
  | e :: r => by
    have ih := lka_eq (an := an) (s0 := s0) (t := t) (acc := r)
    simp only [lka, ahead, List.filter_cons]
    by_cases h : an.contains e.i = true
    · rw [if_pos h]
      simp only [h, if_true, app, St.put]
      cases hd : e.d with
      | none => simp only [tput]; rw [if_neg (by simp)]; exact ih
      | some d =>
        simp only [tput, tget]
        by_cases hdt : d = t
        · subst hdt; simp
        · rw [if_neg (by simpa using hdt), if_neg (fun h => hdt h.symm)]; exact ih
    · rw [if_neg h]
      simp only [h, if_false, Bool.false_eq_true]
      split <;> exact ih
theorem happ_eq {an : List Nat} {s0 : St} : ∀ {acc : List En}, happ an acc s0.hp = (app (ahead an acc) s0).hp
  | [] => rfl
  | e :: r => by
    have ih := happ_eq (an := an) (s0 := s0) (acc := r)
    simp only [happ, ahead, List.filter_cons]
    have h1 : happ.happ1 an e.i e.c (happ an r s0.hp) = if an.contains e.i then e.c ++ happ an r s0.hp else happ an r s0.hp := by
      cases hc : e.c with
      | nil => simp [happ.happ1]
      | cons p c => rfl
    rw [h1, ih]
    by_cases h : an.contains e.i = true
    · simp only [h, if_true, app, St.put]; rfl
    · simp only [h, if_false, Bool.false_eq_true]; rfl
theorem look2_eq {o : Oper} {lo : List Tmp} {ks an : List Nat} {acc : List En} {s0 : St} : look2 (mv o.op) lo ks an acc s0 = lookAt o lo ks (app (ahead an acc) s0) := by
  unfold look2 lookAt
  rw [app_n]
  congr 1
  · exact List.map_congr_left fun t _ => by rw [lka_eq]
  · rw [happ_eq]
    cases mv o.op <;> rfl
def dr (P : Program) (T : Tab) (ds : List (Option Tmp)) (s0 : St) (K : St → Prop) : List Oper → List Row → Nat → List En → Prop
  | o :: r, (an, lo, ks) :: xs, i, acc => dstOk s0 o.dst ∧ dg P T ds o.guard o an i acc (dr P T ds s0 K r xs (i + 1)) (look2 (mv o.op) lo ks an acc s0)
  | _, _, _, acc => K (app acc s0)

theorem dop_is {o : Oper} {an : List Nat} {i : Nat} {acc : List En} {J : List En → Prop} {st : St} (h : dop P T o an i acc J st) : ∃ v c, stepD P T o st v c ∧ acc.all (pair ⟨i, an, o.dst, v, c, st⟩) = true ∧ J (⟨i, an, o.dst, v, c, st⟩ :: acc) := by
  unfold dop at h
  unfold stepD
  cases hm : mv o.op with
  | some x =>
    rw [hm] at h
    exact ⟨_, _, .mk, ckAll_all h.1.go, h.2⟩
  | none =>
    rw [hm] at h
    obtain ⟨v, c, ⟨⟨a1⟩, a2⟩, b⟩ := popv_one o _ (vop_popv h.2)
    simp only [Bool.and_eq_true] at a1
    exact ⟨v, c, ⟨h.1.go, b _ .mk, a1.1.1, a1.1.2⟩, ckAll_all a1.2, a2⟩
theorem dg_is {ds : List (Option Tmp)} {o : Oper} {an : List Nat} {i : Nat} {acc : List En} {J : List En → Prop} {st : St} (h : dg P T ds o.guard o an i acc J st) :
    ∃ v c, gd ds o st (stepD P T o st v c) (Is v c (.raw undef) []) ∧ acc.all (pair ⟨i, an, o.dst, v, c, st⟩) = true ∧ J (⟨i, an, o.dst, v, c, st⟩ :: acc) := by
  unfold dg at h
  unfold gd
  cases hg : o.guard with
  | none => rw [hg] at h; exact dop_is h
  | some p =>
    obtain ⟨j, want⟩ := p
    rw [hg] at h
    simp only at h ⊢
    have sk : dsk o an i acc J st → ∃ v c, Is v c (.raw undef) [] ∧ acc.all (pair ⟨i, an, o.dst, v, c, st⟩) = true ∧ J (⟨i, an, o.dst, v, c, st⟩ :: acc) := fun h => ⟨_, _, .mk, ckAll_all h.1.go, h.2⟩
    cases hx : nthd ds j st <;> rw [hx] at h <;> try exact h.elim
    case bool b =>
      obtain ⟨d1, e1, e2⟩ := nthd_some hx (by simp)
      rw [e1]
      simp only [e2]
      cases b <;> cases want
      · obtain ⟨v, c, q⟩ := dop_is (h.2 rfl); exact ⟨v, c, q⟩
      · obtain ⟨v, c, q⟩ := sk (h.2 rfl); exact ⟨v, c, q⟩
      · obtain ⟨v, c, q⟩ := sk (h.1 rfl); exact ⟨v, c, q⟩
      · obtain ⟨v, c, q⟩ := dop_is (h.1 rfl); exact ⟨v, c, q⟩
    case raw u =>
      obtain ⟨d1, e1, e2⟩ := nthd_some hx (by simp)
      rw [e1]
      simp only [e2]
      cases u <;> try exact h.elim
      exact sk h
theorem dr_is {ds : List (Option Tmp)} {s0 : St} : ∀ {l : List Oper} {xs : List Row} {i : Nat} {acc : List En} {K : St → Prop}, dr P T ds s0 K l xs i acc → ∃ s', K s' ∧ draw P T ds s0 (· = s') (mkPlan l xs) i acc
  | [], [], i, acc, K, h => ⟨app acc s0, h, rfl⟩
  | [], _ :: _, i, acc, K, h => ⟨app acc s0, h, rfl⟩
  | o :: r, [], i, acc, K, h => ⟨_, h, rfl⟩
  | o :: r, (an, lo, ks) :: xs, i, acc, K, h => by
    obtain ⟨h0, h⟩ := h
    rw [look2_eq] at h
    obtain ⟨v, c, h1, h2, h3⟩ := dg_is h
    obtain ⟨s', h4, h5⟩ := dr_is h3
    exact ⟨s', h4, _, v, c, rfl, h0, h1, h2, h5⟩
theorem dr_go (hm : P.follows .mixedOrders = true) (xs : List Row) {id : Nat} {ops : Array Oper} {N : St → Prop} {l : List Oper} (hl : ops.toList = l) (hops : (mkPlan l xs).map Prod.fst = l) (hpl : planOk (mkPlan l xs) [] 0 = true)
    (h : dr P T (l.map (·.dst)) s N l xs 0 []) : Dr P T id ops N s := fun hT => by
  subst hl
  obtain ⟨s', h1, h2⟩ := dr_is h
  exact ⟨s', h1, sem_mono (draw_sound hT hm hops hpl h2) fun e s2 h => by cases e <;> first | exact ⟨rfl, h⟩ | exact h.elim⟩

end Go.Pv

/- What a call of a function brings, from its text's condition; calls in a text. -/
namespace Go.Pv
open Go.RowKit

variable {P : Program} {T : Tab} {s : St} {key : Nat} {hp : Hp}

def FnE (P : Program) (f : FuncId) (args : List PV) (ha : Hp) (Q : PV → Hp → Prop) : Prop := ∃ res hr, Q res hr ∧ Fn P f args ha res hr
/-- A call that is handed no memory of its own, and hands none back. -/
def FnV (P : Program) (f : FuncId) (args : List PV) (Q : PV → Prop) : Prop := ∃ res, Q res ∧ Fn P f args [] res []
theorem FnE.mono {f : FuncId} {args : List PV} {ha : Hp} {Q Q' : PV → Hp → Prop} (h : FnE P f args ha Q) (hq : ∀ r m, Q r m → Q' r m) : FnE P f args ha Q' := by
  obtain ⟨r, m, a, b⟩ := h; exact ⟨r, m, hq _ _ a, b⟩
theorem FnV.mono {f : FuncId} {args : List PV} {Q Q' : PV → Prop} (h : FnV P f args Q) (hq : ∀ r, Q r → Q' r) : FnV P f args Q' := by
  obtain ⟨r, a, b⟩ := h; exact ⟨r, hq _ a, b⟩
theorem FnV.fn {f : FuncId} {args : List PV} {res : PV} (h : FnV P f args (· = res)) : Fn P f args [] res [] := by
  obtain ⟨r, rfl, b⟩ := h; exact b
theorem Fn.v {f : FuncId} {args : List PV} {res : PV} (h : Fn P f args [] res []) : FnV P f args (· = res) := ⟨res, rfl, h⟩
theorem Fn.e {f : FuncId} {args : List PV} {ha hr : Hp} {res : PV} (h : Fn P f args ha res hr) : FnE P f args ha (fun r m => r = res ∧ m = hr) := ⟨res, hr, ⟨rfl, rfl⟩, h⟩
theorem FnV.e {f : FuncId} {args : List PV} {Q : PV → Prop} (h : FnV P f args Q) : FnE P f args [] (fun r m => Q r ∧ m = []) := by
  obtain ⟨r, a, b⟩ := h; exact ⟨r, [], ⟨a, rfl⟩, b⟩

def mk : List PV → Nat → Tm
  | [], _ => []
  | x :: r, i => (i, x) :: mk r (i + 1)
theorem mk_eq : ∀ (l : List PV) (k : Nat), (l.zipIdx k).map (fun p => (p.2, p.1)) = mk l k
  | [], _ => rfl
  | x :: l, k => by simp only [List.zipIdx_cons, List.map_cons, mk, mk_eq l (k + 1)]
/-- The state s at the end hands back res, over hr. -/
def Ret (T : Tab) (rs : List ResultVar) (s : St) (ha : Hp) (res : PV) (hr : Hp) : Prop :=
  ∃ (τ : List (Option Nat)) (xs : List PV), resv T s rs = some xs ∧ RV s.hp hr τ res (oneOf xs) ∧ RH s.hp hr τ hr ∧ Taus hr τ ∧ Back ha hr 64
structure Fin (T : Tab) (rs : List ResultVar) (ha : Hp) (Q : PV → Hp → Prop) (s : St) : Prop where
  go : ∃ res hr, Q res hr ∧ Ret T rs s ha res hr
def noX (_ : Nat) (_ : St) : Prop := False

theorem fn_e (hT : Tok P T) {f n : Nat} {fn : Func} {c : Code} {rs : List ResultVar} {args : List PV} {ha : Hp} {Q : PV → Hp → Prop} (hf : P.funcs[f]? = some fn) (hn : fn.name ≠ "runtime.NumGoroutine") (hb : fn.body = some c) (hnt : fn.ntmps = n) (hrs : fn.results.toList = rs)
    (hl : Nat.ble args.length n = true) (hlow : ∀ k, hget ha k ≠ none → k < 64) (h : vc P T c (Fin T rs ha Q) noX (Fin T rs ha Q) ⟨n, mk args 0, ha⟩) : FnE P f args ha Q := by
  subst hnt hrs
  obtain ⟨e, s', h1, h2⟩ := vc_sound hT c _ _ _ _ h
  have fin : Fin T fn.results.toList ha Q s' → (∀ i, e ≠ .exit i) → FnE P f args ha Q := fun ⟨res, hr, hq, hR⟩ he => by
    refine ⟨res, hr, hq, fn_of hT hf hn hb hlow (Nat.le_of_ble_eq_true hl) ?_⟩
    rw [mk_eq]
    refine sem_and h2 ?_
    cases e with
    | normal => exact hR
    | exit i => exact absurd rfl (he i)
    | ret => exact hR
  cases e with
  | normal => exact fin h1 fun i e => PE.noConfusion e
  | exit i => exact h1.elim
  | ret => exact fin h1 fun i e => PE.noConfusion e

/-- What is handed back if no memory is: slices of one's own are handed back to be read only. -/
def frz1 (hp : Hp) : PV → Option PV
  | .nils => some (.far [])
  | .junk => some .junk
  | .row g n => if Nat.ble 64 g then (elems hp (.row g n)).map .far else none
  | x => if data1 x then some x else none
def frz2 (hp : Hp) : PV → Option PV
  | .agg xs => (cvtl (frz1 hp) xs).map .agg
  | x => frz1 hp x
def frz (hp : Hp) : PV → Option PV
  | .tup xs => (cvtl (frz2 hp) xs).map .tup
  | x => frz2 hp x
theorem cvtl_rvl {f : PV → Option PV} {F : PV → PV → Prop} (hf : ∀ x y, f x = some y → F y x) : ∀ {xs ys : List PV}, cvtl f xs = some ys → RVl F ys xs
  | [], ys, h => by simp only [cvtl, Option.some.injEq] at h; subst h; exact trivial
  | x :: xs, ys, h => by
    simp only [cvtl] at h
    split at h
    · rename_i y0 ys0 h1 h2
      cases h
      exact ⟨hf _ _ h1, cvtl_rvl hf h2⟩
    · cases h
theorem frz1_rv {x y : PV} (h : frz1 hp x = some y) : RV1 hp [] [] y x ∧ RV2 hp [] [] y x ∧ RV hp [] [] y x := by
  unfold frz1 at h
  split at h
  · cases h; exact ⟨.inr (.inl ⟨rfl, rfl⟩), .inr (.inl ⟨rfl, rfl⟩), .inr (.inl ⟨rfl, rfl⟩)⟩
  · cases h; exact ⟨trivial, trivial, trivial⟩
  · rename_i g n
    split at h
    · rename_i hg
      rw [Option.map_eq_some_iff] at h
      obtain ⟨xs, h1, rfl⟩ := h
      have k : RV1 hp [] [] (.far xs) (.row g n) := .inr (.inr ⟨g, n, rfl, h1, by simp, Nat.le_of_ble_eq_true hg⟩)
      exact ⟨k, k, k⟩
    · cases h
  · split at h
    · rename_i hd
      cases h
      cases x <;> first
        | exact ⟨⟨hd, rfl⟩, ⟨hd, rfl⟩, ⟨hd, rfl⟩⟩
        | exact ⟨.inl rfl, .inl rfl, .inl rfl⟩
        | cases hd
    · cases h
theorem frz2_rv {x y : PV} (h : frz2 hp x = some y) : RV2 hp [] [] y x ∧ RV hp [] [] y x := by
  cases x
  case agg xs =>
    simp only [frz2, Option.map_eq_some_iff] at h
    obtain ⟨ys, h1, rfl⟩ := h
    have k : RV2 hp [] [] (.agg ys) (.agg xs) := ⟨xs, rfl, cvtl_rvl (fun _ _ h => (frz1_rv h).1) h1⟩
    exact ⟨k, k⟩
  all_goals (simp only [frz2] at h; exact (frz1_rv h).2)
theorem frz_rv {x y : PV} (h : frz hp x = some y) : RV hp [] [] y x := by
  cases x
  case tup xs =>
    simp only [frz, Option.map_eq_some_iff] at h
    obtain ⟨ys, h1, rfl⟩ := h
    exact ⟨xs, rfl, cvtl_rvl (fun _ _ h => (frz2_rv h).1) h1⟩
  all_goals (simp only [frz] at h; exact (frz2_rv h).2)
def finq (Q : PV → Prop) : Option PV → Prop
  | some y => Q y
  | none => False
def finr (Q : PV → Prop) (hp : Hp) : Option (List PV) → Prop
  | some xs => finq Q (frz hp (oneOf xs))
  | none => False
def FinV (T : Tab) (rs : List ResultVar) (Q : PV → Prop) (s : St) : Prop := finr Q s.hp (resv T s rs)
theorem back_nil (ha hr : Hp) (m : Nat) : Back ha hr m := trivial
theorem FinV.fin {rs : List ResultVar} {Q : PV → Prop} (h : FinV T rs Q s) : Fin T rs [] (fun r m => Q r ∧ m = []) s := by
  unfold FinV finr at h
  cases hx : resv T s rs with
  | none => rw [hx] at h; exact h.elim
  | some xs =>
    rw [hx] at h
    simp only at h
    unfold finq at h
    cases hy : frz s.hp (oneOf xs) with
    | none => rw [hy] at h; exact h.elim
    | some y =>
      rw [hy] at h
      exact ⟨y, [], ⟨h, rfl⟩, [], xs, hx, frz_rv hy, trivial, trivial, back_nil _ _ _⟩
theorem fn_v (hT : Tok P T) {f n : Nat} {fn : Func} {c : Code} {rs : List ResultVar} {args : List PV} {Q : PV → Prop} (hf : P.funcs[f]? = some fn) (hn : fn.name ≠ "runtime.NumGoroutine") (hb : fn.body = some c) (hnt : fn.ntmps = n) (hrs : fn.results.toList = rs)
    (hl : Nat.ble args.length n = true) (h : vc P T c (FinV T rs Q) noX (FinV T rs Q) ⟨n, mk args 0, []⟩) : FnV P f args Q := by
  subst hnt hrs
  obtain ⟨e, s', h1, h2⟩ := vc_sound hT c _ _ _ _ h
  have fin : FinV T fn.results.toList Q s' → (∀ i, e ≠ .exit i) → FnV P f args Q := fun hF he => by
    obtain ⟨res, hr, ⟨hq, rfl⟩, hR⟩ := hF.fin.go
    refine ⟨res, hq, fn_of hT hf hn hb (fun _ h => absurd rfl h) (Nat.le_of_ble_eq_true hl) ?_⟩
    rw [mk_eq]
    refine sem_and h2 ?_
    cases e with
    | normal => exact hR
    | exit i => exact absurd rfl (he i)
    | ret => exact hR
  cases e with
  | normal => exact fin h1 fun i e => PE.noConfusion e
  | exit i => exact h1.elim
  | ret => exact fin h1 fun i e => PE.noConfusion e
theorem fn_x (hT : Tok P T) {f n : Nat} {fn : Func} {c : Code} {rs : List ResultVar} {args : List PV} {res : PV} (hf : P.funcs[f]? = some fn) (hn : fn.name ≠ "runtime.NumGoroutine") (hb : fn.body = some c) (hnt : fn.ntmps = n) (hrs : fn.results.toList = rs)
    (hl : Nat.ble args.length n = true) (h : vc P T c (FinV T rs (· = res)) noX (FinV T rs (· = res)) ⟨n, mk args 0, []⟩) : Fn P f args [] res [] := (fn_v hT hf hn hb hnt hrs hl h).fn

/-! ### Calls -/

structure To2 (K J : PV → Hp → Prop) : Prop where
  go : ∀ v c, K v c → J v c
def plain1 : PV → Bool
  | .row _ _ | .view _ _ _ _ | .elt _ _ _ _ | .ref _ _ | .agg _ | .tup _ | .fn _ _ => false
  | _ => true
def plain2 : PV → Bool
  | .agg xs => xs.all plain1
  | x => plain1 x
def plain : PV → Bool
  | .tup xs => xs.all plain2
  | x => plain2 x
theorem plain1_rk {σ : Nat → Nat} {x : PV} (h : plain1 x = true) : scal x = true ∧ rk1 σ x = x := by
  cases x <;> first | exact ⟨rfl, rfl⟩ | cases h
theorem map_id' {f : PV → PV} : ∀ {l : List PV}, (∀ x ∈ l, f x = x) → l.map f = l
  | [], _ => rfl
  | x :: l, h => by rw [List.map_cons, h x List.mem_cons_self, map_id' fun y hy => h y (List.mem_cons_of_mem _ hy)]
theorem plain_agg {σ : Nat → Nat} {xs : List PV} (h : xs.all plain1 = true) : xs.all scal = true ∧ xs.map (rk1 σ) = xs :=
  ⟨List.all_eq_true.2 fun x hx => (plain1_rk (σ := σ) (List.all_eq_true.1 h x hx)).1, map_id' fun x hx => (plain1_rk (List.all_eq_true.1 h x hx)).2⟩
theorem plain_rk {σ : Nat → Nat} {x : PV} (h : plain x = true) : resOk x = true ∧ rk σ x = x := by
  cases x <;> try exact ⟨rfl, rfl⟩
  case agg xs => exact ⟨(plain_agg (σ := σ) h).1, congrArg PV.agg (plain_agg h).2⟩
  case tup xs =>
    have h1 : ∀ y ∈ xs, plain2 y = true := List.all_eq_true.1 h
    refine ⟨List.all_eq_true.2 fun y hy => ?_, congrArg PV.tup (map_id' fun y hy => ?_)⟩
    · have := h1 y hy
      cases y <;> simp only [plain2] at this <;> first | exact (plain1_rk (σ := σ) this).1 | exact (plain_agg (σ := σ) this).1
    · have := h1 y hy
      cases y <;> simp only [plain2] at this <;> first | exact (plain1_rk (σ := σ) this).2 | exact congrArg PV.agg (plain_agg this).2
  all_goals cases h

/-- Directly: no slice of one's own among the arguments. -/
theorem call_v {xs as : List PV} {f : FuncId} {Q : PV → Prop} {K : PV → Hp → Prop} (h : FnV P f as Q) (hc : cvtl (cvt hp [] []) xs = some as) (hk : ∀ res, Q res → Ck (plain res) ∧ K res []) : Call P hp key xs f K := by
  obtain ⟨res, h1, h2⟩ := h
  obtain ⟨⟨h3⟩, h4⟩ := hk res h1
  obtain ⟨a, b⟩ := plain_rk (σ := sg [] key) h3
  exact ⟨[], [], false, as, [], res, [], hc, rfl, h2, ⟨List.nodup_nil, fun _ h => absurd h (by simp), by decide⟩, trivial, trivial, ⟨a, trivial⟩, fun h => Bool.noConfusion h, by rw [b]; exact h4⟩
theorem call_x {xs as : List PV} {f : FuncId} {res : PV} {K : PV → Hp → Prop} (h : Fn P f as [] res []) (hc : cvtl (cvt hp [] []) xs = some as) (hq : Ck (plain res)) (hk : K res []) : Call P hp key xs f K :=
  call_v h.v hc fun _ e => e ▸ ⟨hq, hk⟩

/-! ### What is handed back as one's own, is handed back to be read only -/
def fz1 (hp : Hp) : PV → Option PV
  | .nils => some (.far [])
  | .junk => some .junk
  | .row g n => (elems hp (.row g n)).map .far
  | x => if data1 x then some x else none
def fz2 (hp : Hp) : PV → Option PV
  | .agg xs => (cvtl (fz1 hp) xs).map .agg
  | x => fz1 hp x
def fz (hp : Hp) : PV → Option PV
  | .tup xs => (cvtl (fz2 hp) xs).map .tup
  | x => fz2 hp x
section
variable {w : World} {V A : Bl} {Γ : Nat → Value}
theorem fz1_vr (hV : ∀ k b, live hp k → ob (Γ k) = some b → ¬ A b) (hA : ∀ b, A b → Av V Γ hp b) (hr : ∀ k, HR w (Av V Γ hp) Γ hp k) {x y : PV} {v : Value} (hv : VR w (Av V Γ hp) Γ hp x v) (h : fz1 hp x = some y) : DR w A y v := by
  have st : ∀ {z : PV}, DR w (Av V Γ hp) z v → DR w A z v := fun h => h.step (fun _ _ _ => rfl) fun b _ hb => hA b hb
  unfold fz1 at h
  split at h
  · cases h; rw [vr_nils hv]; exact .far0 _ _
  · cases h; exact .junk _
  · rename_i g n
    rw [Option.map_eq_some_iff] at h
    obtain ⟨xs, h1, rfl⟩ := h
    obtain ⟨a, cap, rfl, hc, h2⟩ := elems_vr hv hr h1
    rcases h2 with rfl | ⟨β, o, c, e, fr, sz, rfl, hw, hz, hm, hav⟩
    · exact .far0 _ _
    · refine .far xs β o cap sz c e fr ?_ hw hc hz (fun i x j y hx hy => (hm i x j y hx hy).1) fun i x j y hx hy => ((hm i x j y hx hy).2).step (fun _ _ _ => rfl) fun b _ hb => hA b hb
      rcases hav with hav | ⟨g', n', h3, hl, ho⟩
      · exact fun hb => hav (hA β hb)
      · rcases h3 with h3 | ⟨lo, hi, h3⟩
        · cases h3; exact hV _ _ hl ho
        · cases h3
  · split at h
    · rename_i hd
      cases h
      exact st (dr_of hv hd)
    · cases h
theorem cvtl_vr {f : PV → Option PV} {xs ys : List PV} {cs : Array Value} {R S : PV → Value → Prop} (hf : ∀ x y v, R x v → f x = some y → S y v) (h : cvtl f xs = some ys) (hx : ∀ (i : Nat) (x : PV), xs[i]? = some x → R x (cs.getD i undef)) :
    ∀ (i : Nat) (y : PV), ys[i]? = some y → S y (cs.getD i undef) := fun i y hy => by
  obtain ⟨_, h2⟩ := cvtl_get h
  obtain ⟨x, h3, h4⟩ := h2 i y hy
  exact hf _ _ _ (hx i x h3) h4
theorem fz2_vr (hV : ∀ k b, live hp k → ob (Γ k) = some b → ¬ A b) (hA : ∀ b, A b → Av V Γ hp b) (hr : ∀ k, HR w (Av V Γ hp) Γ hp k) {x y : PV} {v : Value} (hv : VR w (Av V Γ hp) Γ hp x v) (h : fz2 hp x = some y) : DR w A y v := by
  cases x
  case agg xs =>
    simp only [fz2, Option.map_eq_some_iff] at h
    obtain ⟨ys, h1, rfl⟩ := h
    obtain ⟨cs, rfl, h2, h3⟩ := vr_agg hv
    exact .agg ys cs (by rw [h2, (cvtl_get h1).1]) (cvtl_vr (R := VR w (Av V Γ hp) Γ hp) (S := DR w A) (xs := xs) (ys := ys) (fun x y v hx he => fz1_vr hV hA hr hx he) h1 h3)
  all_goals (simp only [fz2] at h; exact fz1_vr hV hA hr hv h)
theorem fz_vr (hV : ∀ k b, live hp k → ob (Γ k) = some b → ¬ A b) (hA : ∀ b, A b → Av V Γ hp b) (hr : ∀ k, HR w (Av V Γ hp) Γ hp k) {x y : PV} {v : Value} (hv : VR w (Av V Γ hp) Γ hp x v) (h : fz hp x = some y) : DR w A y v := by
  cases x
  case tup xs =>
    simp only [fz, Option.map_eq_some_iff] at h
    obtain ⟨ys, h1, rfl⟩ := h
    obtain ⟨cs, rfl, h2, h3⟩ := vr_tup hv
    exact .tup ys cs (by rw [h2, (cvtl_get h1).1]) (cvtl_vr (R := VR w (Av V Γ hp) Γ hp) (S := DR w A) (xs := xs) (ys := ys) (fun x y v hx he => fz2_vr hV hA hr hx he) h1 h3)
  all_goals (simp only [fz] at h; exact fz2_vr hV hA hr hv h)
end
theorem Fn.far {f : FuncId} {args : List PV} {ha hr : Hp} {res y : PV} (h : Fn P f args ha res hr) (hy : fz hr res = some y) : Fn P f args ha y [] := by
  refine ⟨h.ent, fun w V Γ vs hV hs ha' hh hd => (h.run w V Γ vs hV hs ha' hh hd).mono ?_⟩
  rintro e w' ⟨v, Γ', rfl, h1, h2, h3, h4, h5, h6⟩
  have no : ∀ b, ¬ Ow Γ' [] b := fun b ⟨k, hl, _⟩ => hl
  refine ⟨v, Γ', rfl, h1, .data (fz_vr (V := V) (Γ := Γ') (hp := hr) (fun k b hl ho hb => ?_) (fun b hb => hb.imp id fun h => (no b h).elim) h3 h2 hy), fun _ => trivial, fun k _ _ l => l.elim, fun b hb => (no b hb).elim, fun k _ l _ => l.elim⟩
  rcases hb with hb | hb
  · obtain ⟨q1, q2⟩ := hV.1 b hb
    rcases h5 b ⟨k, hl, ho⟩ with h7 | h7
    · omega
    · exact q2 h7
  · exact no b hb
theorem fin_t (τ : List (Option Nat)) {rs : List ResultVar} {ha hr : Hp} {res : PV} {xs : List PV} {Q : PV → Hp → Prop} (hq : Q res hr) (h1 : resv T s rs = some xs) (h2 : RV s.hp hr τ res (oneOf xs)) (h3 : RH s.hp hr τ hr) (h4 : Taus hr τ) : Fin T rs ha Q s := ⟨res, hr, hq, τ, xs, h1, h2, h3, h4, trivial⟩
end Go.Pv

/- Calls that are handed memory of one's own, and hand it back. -/
namespace Go.Pv
open Go.RowKit

variable {P : Program} {hp : Hp} {key : Nat}

def nfc (cs : List PV) : Prop := ∀ y ∈ cs, nf1 y = true
def nfx (xs : List PV) : Prop := ∀ x ∈ xs, ∀ y ∈ flat x, nf1 y = true
def nfH : Hp → Prop
  | [] => True
  | (_, .box _ cs) :: r => nfc cs ∧ nfH r
  | (_, .row _ xs) :: r => nfx xs ∧ nfH r
  | (_, .dead) :: r => nfH r
theorem nfH_NF : ∀ {hr : Hp}, nfH hr → NF hr
  | [], _, k, c, h => absurd h (by simp)
  | (j, x) :: r, hn, k, c, h => by
    have hn' : nfH r := by cases x <;> simp only [nfH] at hn <;> first | exact hn.2 | exact hn
    rcases List.mem_cons.1 h with h | h
    · cases h
      cases x with
      | box q cs => exact hn.1
      | row sz xs => exact hn.1
      | dead => trivial
    · exact nfH_NF hn' k c h
def hpB : Hp → Bool
  | [] => true
  | (_, .box _ cs) :: r => cs.all scal && hpB r
  | _ :: r => hpB r
theorem hpB_ok : ∀ {hr : Hp}, hpB hr = true → HpOk hr
  | [], _ => trivial
  | (_, .box _ cs) :: r, h => by
    simp only [hpB, Bool.and_eq_true] at h
    exact ⟨h.1, hpB_ok h.2⟩
  | (_, .row _ _) :: r, h => hpB_ok (hr := r) h
  | (_, .dead) :: r, h => hpB_ok (hr := r) h
def mnr (sz : Sz) (xs' : List PV) : Option HC → Prop
  | some (.row sz' xs) => sz = sz' ∧ xs.length ≤ xs'.length
  | _ => False
def mnb (q : TypeId) : Option HC → Prop
  | some (.box q' _) => q = q'
  | _ => False
def mn1 : Option HC → Option HC → Prop
  | some (.row sz xs'), o => mnr sz xs' o
  | some (.box q _), o => mnb q o
  | some .dead, _ => True
  | none, _ => True
def Mn (ha hr : Hp) : Nat → Prop
  | 0 => True
  | j + 1 => mn1 (hget hr j) (hget ha j) ∧ Mn ha hr j
theorem Mn_mono {ha hr : Hp} : ∀ {m : Nat}, Mn ha hr m → Mono ha hr m
  | 0, _ => trivial
  | j + 1, ⟨h1, h2⟩ => by
    refine ⟨?_, Mn_mono h2⟩
    cases h3 : hget hr j with
    | none => trivial
    | some c =>
      rw [h3] at h1
      cases c with
      | dead => trivial
      | box q cs =>
        cases h4 : hget ha j with
        | none => rw [h4] at h1; exact h1.elim
        | some d =>
          rw [h4] at h1
          cases d with
          | box q' cs' => cases h1; exact ⟨cs', rfl⟩
          | row _ _ => exact h1.elim
          | dead => exact h1.elim
      | row sz xs =>
        cases h4 : hget ha j with
        | none => rw [h4] at h1; exact h1.elim
        | some d =>
          rw [h4] at h1
          cases d with
          | box q' cs' => exact h1.elim
          | row sz' ys => obtain ⟨rfl, h5⟩ := h1; exact ⟨ys, rfl, h5⟩
          | dead => exact h1.elim
def ln : List Nat → Nat
  | [] => 0
  | _ :: r => ln r + 1
theorem ln_eq : ∀ l : List Nat, ln l = l.length
  | [] => rfl
  | _ :: r => congrArg (· + 1) (ln_eq r)
def gn (k : Nat) (h : Hp) : Option HC → Hp
  | none => (k, .dead) :: h
  | some _ => h
theorem gone_cons (hr : Hp) (k : Nat) (r : List Nat) (j : Nat) : gone hr (k :: r) j = gn k (gone hr r (j + 1)) (hget hr j) := by
  simp only [gone]
  cases hget hr j <;> rfl
def nfR (R : List Nat) (res : PV) (hr : Hp) : Prop := match R with
  | [] => True
  | _ :: _ => Ck (nf res) ∧ nfH hr
/-- With what the caller goes on. -/
def bk (κ R : List Nat) (key : Nat) (hp ha : Hp) (K : PV → Hp → Prop) (res : PV) (hr : Hp) : Prop :=
  Ck (resOk res && hpB hr) ∧ nfR R res hr ∧ KeysOk hp (ln κ) key hr ∧ Mn ha hr (ln κ) ∧ K (rk (sg κ key) res) (rkH (sg κ key) hr ++ gone hr κ 0)
theorem call_h (κ R : List Nat) {xs as : List PV} {f : FuncId} {ha : Hp} {Q K : PV → Hp → Prop} (h : FnE P f as ha Q) (hn : κ.Nodup ∧ (∀ k ∈ κ, k ∉ R) ∧ κ.length ≤ 64) (hc : cvtl (cvt hp R κ) xs = some as) (hh : hand hp R κ κ 0 = some ha)
    (hk : ∀ res hr, Q res hr → bk κ R key hp ha K res hr) : Call P hp key xs f K := by
  obtain ⟨res, hr, hq, hf⟩ := h
  obtain ⟨⟨h1⟩, h2, h3, h4, h5⟩ := hk res hr hq
  simp only [Bool.and_eq_true] at h1
  rw [ln_eq] at h3 h4
  refine ⟨κ, R, !R.isEmpty, as, ha, res, hr, hc, hh, hf, hn, h3, Mn_mono h4, ⟨h1.1, hpB_ok h1.2⟩, fun e => ?_, ?_⟩
  · cases R with
    | nil => cases e
    | cons _ _ => exact ⟨h2.1.go, nfH_NF h2.2⟩
  · cases R with
    | nil => simpa using h5
    | cons _ _ => simpa using h5
theorem call_hx (κ R : List Nat) {xs as : List PV} {f : FuncId} {ha hr : Hp} {res : PV} {K : PV → Hp → Prop} (h : Fn P f as ha res hr) (hn : κ.Nodup ∧ (∀ k ∈ κ, k ∉ R) ∧ κ.length ≤ 64) (hc : cvtl (cvt hp R κ) xs = some as) (hh : hand hp R κ κ 0 = some ha)
    (hk : bk κ R key hp ha K res hr) : Call P hp key xs f K :=
  call_h κ R h.e hn hc hh fun _ _ ⟨e1, e2⟩ => e1 ▸ e2 ▸ hk
def lowB : Hp → Bool
  | [] => true
  | (k, _) :: r => Nat.blt k 64 && lowB r
theorem low_of : ∀ {ha : Hp}, lowB ha = true → ∀ k, hget ha k ≠ none → k < 64
  | [], _, k, h => absurd rfl h
  | (j, c) :: r, hl, k, h => by
    simp only [lowB, Bool.and_eq_true] at hl
    simp only [hget] at h
    by_cases e : k = j
    · subst e; exact Nat.le_of_ble_eq_true hl.1
    · rw [if_neg e] at h; exact low_of hl.2 k h
theorem nfx_map {α : Type} (f : α → PV) (l : List α) (h : ∀ a, ∀ y ∈ flat (f a), nf1 y = true) : nfx (l.map f) := fun x hx => by
  obtain ⟨a, _, rfl⟩ := List.mem_map.1 hx
  exact h a
theorem nfx_int (l : List Int) (k : IntKind) : nfx (l.map (PV.int k)) = True := eq_true (nfx_map _ _ fun a y hy => by simp [flat] at hy; subst hy; rfl)
theorem nfx_str (l : List ByteArray) : nfx (l.map PV.str) = True := eq_true (nfx_map _ _ fun a y hy => by simp [flat] at hy; subst hy; rfl)
theorem nfc_nil : nfc [] = True := eq_true fun y h => absurd h (by simp)
theorem nfc_cons (x : PV) (l : List PV) : nfc (x :: l) = (Ck (nf1 x) ∧ nfc l) := propext ⟨fun h => ⟨⟨h x (by simp)⟩, fun y hy => h y (by simp [hy])⟩, fun h y hy => by
  rcases List.mem_cons.1 hy with rfl | hy
  · exact h.1.go
  · exact h.2 y hy⟩
theorem nfx_nil : nfx [] = True := eq_true fun y h => absurd h (by simp)
end Go.Pv

/- The rules by which simp reckons a text's condition, all in one. -/
namespace Go.Pv
open Go.RowKit Go.Mth

def cbox : Option HC → Nat → Option (List PV)
  | some (.box _ cs), off => some (cs.drop off)
  | _, _ => none
def celt : Option HC → Nat → Nat → Nat → Option (List PV)
  | some (.row _ xs), n, i, off => if n = xs.length ∧ i < n then some ((flat (xs.getD i .junk)).drop off) else none
  | _, _, _, _ => none
def elr : Option HC → Nat → Option (List PV)
  | some (.row _ xs), n => if n = xs.length then some xs else none
  | _, _ => none
def elv : Option HC → Nat → Nat → Nat → Option (List PV)
  | some (.row _ xs), n, lo, hi => if n = xs.length then some ((xs.take hi).drop lo) else none
  | _, _, _, _ => none
def isI1 : Option TE → Bool
  | some ⟨.iface, _, _, _⟩ => true
  | _ => false
def isN1 : Option TE → Bool
  | some ⟨.int _, _, _, _⟩ => true
  | _ => false
def isBo : Option TE → Bool
  | some ⟨.bool, _, _, _⟩ => true
  | _ => false
def elp (sz : Nat) (x : PV) : Prop := (flat x).length = sz ∧ (flat x).all cell1 = true ∧ (flat x).all data1 = true
def dox (P : Program) (T : Tab) (m : Option Operand) (d : Option Tmp) (op : Op) (o : Oper) (an : List Nat) (i : Nat) (acc : List En) (J : List En → Prop) (st : St) : Prop := match m with
  | some x => dm o an i acc J st (st.ev x)
  | none => Ck (okSt st) ∧ vop P T d op (dk o an i acc J st) st
def lkt (an : List Nat) (acc : List En) (tm : Tm) (t : Tmp) : Nat × PV := (t, lka an acc tm t)

def rsc (x : PV) : Option (List PV) → Option (List PV)
  | some xs => some (x :: xs)
  | none => none
def rse : Bool → Nat → List PV → List PV → Option (List PV)
  | true, sz, cs, ys => if 0 < sz ∧ sz ≤ cs.length then some (.agg (cs.take sz) :: ys) else none
  | false, _, c :: _, ys => some (c :: ys)
  | false, _, [], _ => none
def rsd : Option TE → Option (List PV) → Option (List PV) → Option (List PV)
  | some te, some cs, some ys => rse te.ti.agg te.sz cs ys
  | _, _, _ => none
def cvc : Option PV → Option (List PV) → Option (List PV)
  | some y, some ys => some (y :: ys)
  | _, _ => none
def cvro (hp : Hp) (R : List Nat) (g : Nat) : PV → Option Nat → Option PV
  | .row _ n, some j => some (.row j n)
  | .row _ n, none => if R.contains g then (elr (hget hp g) n).map .far else none
  | _, _ => none
def cvvi (hp : Hp) (R : List Nat) (g n l h : Nat) : Option Nat → Option PV
  | some j => some (.view j n l h)
  | none => if R.contains g then (elv (hget hp g) n l h).map .far else none
def cvre (hp : Hp) (R : List Nat) (g o : Nat) : Option Nat → Option PV
  | some j => some (.ref j o)
  | none => if R.contains g then ((cbox (hget hp g) o).bind (cvtl (cvt0 hp R []))).map .fel else none
def hnb (j : Nat) (q : TypeId) (h : Hp) (ds : List PV) : Hp := (j, .box q ds) :: h
def hnd (hp : Hp) (K κ : List Nat) : Option HC → Nat → Option Hp → Option Hp
  | some (.box q cs), j, some h => (cvtl (cvt0 hp K κ) cs).map (hnb j q h)
  | some (.row sz xs), j, some h => some ((j, .row sz xs) :: h)
  | _, _, _ => none

theorem cells_ref (hp : Hp) (b off : Nat) : cellsAt hp (.ref b off) = cbox (hget hp b) off := by
  simp only [cellsAt]; unfold cbox
  cases hget hp b with
  | none => rfl
  | some c => cases c <;> rfl
theorem elems_row (hp : Hp) (g n : Nat) : elems hp (.row g n) = elr (hget hp g) n := by
  simp only [elems]; unfold elr
  cases hget hp g with
  | none => rfl
  | some c => cases c <;> rfl
theorem elems_view (hp : Hp) (g n lo hi : Nat) : elems hp (.view g n lo hi) = elv (hget hp g) n lo hi := by
  simp only [elems]; unfold elv
  cases hget hp g with
  | none => rfl
  | some c => cases c <;> rfl
theorem resv_cell (T : Tab) (s : St) (p t : Nat) (r : List ResultVar) : resv T s (.cell p t :: r) = rsd (T t) (cellsAt s.hp (tget s.tm p)) (resv T s r) := by
  simp only [resv]
  cases T t with
  | none => rfl
  | some te =>
    cases cellsAt s.hp (tget s.tm p) with
    | none => rfl
    | some cs =>
      cases resv T s r with
      | none => rfl
      | some ys => simp only [rsd]; cases te.ti.agg <;> cases cs <;> simp [rse]
theorem frz_row (hp : Hp) (g n : Nat) : frz1 hp (.row g n) = if 64 ≤ g then (elr (hget hp g) n).map .far else none := by
  simp only [frz1, Nat.ble_eq, elems_row]
theorem cvt_row (hp : Hp) (R κ : List Nat) (g n : Nat) : cvt0 hp R κ (.row g n) = cvro hp R g (.row g n) (idx κ g 0) := by
  simp only [cvt0, elems_row]; cases idx κ g 0 <;> rfl
theorem cvt_view (hp : Hp) (R κ : List Nat) (g n l h : Nat) : cvt0 hp R κ (.view g n l h) = cvvi hp R g n l h (idx κ g 0) := by
  simp only [cvt0, elems_view]; cases idx κ g 0 <;> rfl
theorem cvt_ref (hp : Hp) (R κ : List Nat) (g o : Nat) : cvt1 hp R κ (.ref g o) = cvre hp R g o (idx κ g 0) := by
  simp only [cvt1, cells_ref]; cases idx κ g 0 <;> rfl
theorem hand_cons (hp : Hp) (K κ : List Nat) (k : Nat) (r : List Nat) (j : Nat) : hand hp K κ (k :: r) j = hnd hp K κ (hget hp k) j (hand hp K κ r (j + 1)) := by
  simp only [hand]
  cases hget hp k with
  | none => cases hand hp K κ r (j + 1) <;> rfl
  | some c => cases c <;> cases hand hp K κ r (j + 1) <;> rfl

theorem strP_map (k : IntKind) (l : List Int) (h : k = .u8) : strP (l.map (PV.int k)) = strOf l := by
  subst h
  unfold strP strOf
  rw [List.map_map]
  rfl
theorem bytesP_map (s : ByteArray) : bytesP s = (bytesOf s).map (PV.int .u8) := by
  unfold bytesP bytesOf
  rw [List.map_map]
  rfl
theorem isByte_map (l : List Int) : (∀ z ∈ l.map (PV.int .u8), isByte z) = (∀ x ∈ l, 0 ≤ x ∧ x < 256) := by
  refine propext ⟨fun h x hx => h _ (List.mem_map_of_mem hx), fun h z hz => ?_⟩
  obtain ⟨x, hx, rfl⟩ := List.mem_map.1 hz
  exact h x hx
theorem elOk_int (l : List Int) (k : IntKind) : elOk 1 (l.map (PV.int k)) = True := eq_true fun z hz => by
  obtain ⟨x, hx, rfl⟩ := List.mem_map.1 hz
  exact ⟨rfl, rfl⟩
theorem elOk_str (l : List ByteArray) : elOk 1 (l.map PV.str) = True := eq_true fun z hz => by
  obtain ⟨x, hx, rfl⟩ := List.mem_map.1 hz
  exact ⟨rfl, rfl⟩
theorem lenA_map {α : Type} (f : α → PV) (n : Nat) (l : List α) (h : ∀ x, (flat (f x)).length = n) : lenA n (l.map f) := fun y hy => by
  obtain ⟨x, hx, rfl⟩ := List.mem_map.1 hy
  exact h x

def zeroV : Bool → List PV → PV
  | true, z => .agg z
  | false, z => z.getD 0 .junk

set_option maxRecDepth 100000 in
theorem VC : (∀ n tm hp t, St.ev ⟨n, tm, hp⟩ (.tmp t) = tget tm t) ∧
  (∀ s v, St.ev s (.const v) = cv v) ∧
  (∀ s g, St.ev s (.global g) = gev g) ∧
  (∀ s f, St.ev s (.func f) = .fn (.func f) []) ∧
  (∀ b, cv (.bool b) = .bool b) ∧
  (∀ k n, cv (.int k n) = .int k n) ∧
  (∀ b, cv (.string b) = .str b) ∧
  (cv (.pointer none) = .nilp) ∧
  (cv (.slice none 0 0) = .nils) ∧
  (cv .nilFunc = .raw .nilFunc) ∧
  (cv .nilIface = .raw .nilIface) ∧
  (∀ l, cv (.agg (List.toArray l)) = .agg (l.map cv1)) ∧
  (∀ b, cv1 (.bool b) = .bool b) ∧
  (∀ k n, cv1 (.int k n) = .int k n) ∧
  (∀ b, cv1 (.string b) = .str b) ∧
  (cv1 (.pointer none) = .nilp) ∧
  (cv1 (.slice none 0 0) = .nils) ∧
  (cv1 .nilFunc = .raw .nilFunc) ∧
  (cv1 .nilIface = .raw .nilIface) ∧
  (∀ k c r j, tget ((k, c) :: r) j = if j = k then c else tget r j) ∧
  (∀ j, tget [] j = .junk) ∧
  (∀ k c r j, hget ((k, c) :: r) j = if j = k then some c else hget r j) ∧
  (∀ j, hget [] j = none) ∧
  (∀ n tm hp d v c, St.put ⟨n, tm, hp⟩ (some d) v c = ⟨n, (d, v) :: tm, c ++ hp⟩) ∧
  (∀ n tm hp v c, St.put ⟨n, tm, hp⟩ none v c = ⟨n, tm, c ++ hp⟩) ∧
  (∀ n tm hp d, dstOk ⟨n, tm, hp⟩ (some d) = (d < n)) ∧
  (∀ s, dstOk s none = True) ∧
  (∀ s d, keyOf s (some d) = 64 * (d + 1)) ∧
  (∀ n tm hp, keyOf ⟨n, tm, hp⟩ none = 64 * (n + 1)) ∧
  (∀ P T N X R s, vc P T .skip N X R s = N s) ∧
  (∀ P T id l N X R s, vc P T (.region id (List.toArray l) false) N X R s = vops P T (l.map (·.dst)) N l s) ∧
  (∀ P T id ops N X R s, vc P T (.region id ops true) N X R s = Dr P T id ops N s) ∧
  (∀ P T x y N X R s, vc P T (.seq x y) N X R s = vc P T x (vc P T y N X R) X R s) ∧
  (∀ P T c x y N X R s, vc P T (.cond c x y) N X R s = brv (s.ev c) (vc P T x N X R) (vc P T y N X R) s) ∧
  (∀ P T id c N X R s, vc P T (.block id c) N X R s = vc P T c N (exs id N X) R s) ∧
  (∀ P T c N X R s, vc P T (.loop c) N X R s = Lp P T c N X R s) ∧
  (∀ P T id N X R s, vc P T (.exit id) N X R s = X id s) ∧
  (∀ P T N X R s, vc P T .ret N X R s = R s) ∧
  (∀ s d K v c, kp s d K v c = K (s.put d v c)) ∧
  (∀ P T d op K s, op1 P T d op K s = vop P T d op (kp s d K) s) ∧
  (∀ d K s, skp d K s = K (s.put d (.raw undef) [])) ∧
  (∀ id N X i s, exs id N X i s = if i = id then N s else X i s) ∧
  (∀ A B s, br true A B s = A s) ∧
  (∀ A B s, br false A B s = B s) ∧
  (∀ b A B s, brv (.bool b) A B s = br b A B s) ∧
  (∀ b A B s, br (!b) A B s = br b B A s) ∧
  (∀ b A B s, brg (.bool b) true A B s = br b A B s) ∧
  (∀ b A B s, brg (.bool b) false A B s = br b B A s) ∧
  (∀ v w A B s, brg (.raw (.tuple v)) w A B s = B s) ∧
  (∀ d r s, nthd (some d :: r) 0 s = tget s.tm d) ∧
  (∀ d r j s, nthd (d :: r) (j + 1) s = nthd r j s) ∧
  (∀ P T ds K s, vops P T ds K [] s = K s) ∧
  (∀ P T ds K d op ty pos af r s, vops P T ds K (⟨d, op, ty, pos, af, none⟩ :: r) s = (dstOk s d ∧ op1 P T d op (vops P T ds K r) s)) ∧
  (∀ P T ds K d op ty pos af j w r s, vops P T ds K (⟨d, op, ty, pos, af, some (j, w)⟩ :: r) s = (dstOk s d ∧ brg (nthd ds j s) w (op1 P T d op (vops P T ds K r)) (skp d (vops P T ds K r)) s)) ∧
  (∀ P T d x K s, vop P T d (.move x) K s = K (s.ev x) []) ∧
  (∀ P T d x K s, vop P T d (.assign x) K s = K (s.ev x) []) ∧
  (∀ P T d c a b K s, vop P T d (.pick c a b) K s = pickv (s.ev c) (s.ev a) (s.ev b) K) ∧
  (∀ P T d e K s, vop P T d (.alloc e) K s = allocv e (T e) s.hp (keyOf s d) K) ∧
  (∀ P T d e x K s, vop P T d (.box e x) K s = boxv e (flat (s.ev x)) s.hp (keyOf s d) K) ∧
  (∀ P T d t l K s, vop P T d (.build t (List.toArray l)) K s = buildv T (T t) (l.map fun p => (p.1, s.ev p.2)) K) ∧
  (∀ P T d t len l K s, vop P T d (.buildSlice t len (List.toArray l)) K s = bslv (elemT T (T t)) s.hp (keyOf s d) len (l.map (·.1)) (l.map fun p => s.ev p.2) K) ∧
  (∀ P T d t l c K s, vop P T d (.makeSlice t l c) K s = mkv (elemT T (T t)) s.hp (keyOf s d) (s.ev l) (s.ev c) K) ∧
  (∀ P T d t a K s, vop P T d (.load t a) K s = ldv (T t) (cellsAt s.hp (s.ev a)) K) ∧
  (∀ P T d x K s, vop P T d (.nilCheck x) K s = nilv (s.ev x) K (cellsAt s.hp (s.ev x))) ∧
  (∀ P T d o t x y u K s, vop P T d (.binOp o t x y u) K s = bnv T t o (s.ev x) (s.ev y) (k0 K) (isNil y)) ∧
  (∀ P T d t x K s, vop P T d (.makeInterface t x) K s = mki (isIn T t) t (s.ev x) K) ∧
  (∀ T t o x y K, bnv T t o x y K false = bin2 T t o x y K) ∧
  (∀ T t o x y K, bnv T t o x y K true = ifn (isIf T t) o x K) ∧
  (∀ t, isNil (.tmp t) = false) ∧
  (∀ k n, isNil (.const (.int k n)) = false) ∧
  (∀ b, isNil (.const (.string b)) = false) ∧
  (∀ b, isNil (.const (.bool b)) = false) ∧
  (∀ p, isNil (.const (.pointer p)) = false) ∧
  (∀ a n c, isNil (.const (.slice a n c)) = false) ∧
  (∀ l, isNil (.const (.agg l)) = false) ∧
  (isNil (.const .nilFunc) = false) ∧
  (isNil (.const .nilIface) = true) ∧
  (∀ g, isNil (.global g) = false) ∧
  (∀ f, isNil (.func f) = false) ∧
  (∀ T t, isIf T t = isI1 (T t)) ∧
  (∀ T t, isIn T t = isN1 (T t)) ∧
  (∀ a b c, isI1 (some ⟨.iface, a, b, c⟩) = true) ∧
  (∀ k a b c, isN1 (some ⟨.int k, a, b, c⟩) = true) ∧
  (∀ o K, ifn true o (.raw .nilIface) K = sbk o K (some true)) ∧
  (∀ t v o K, ifn true o (.raw (.iface t v)) K = sbk o K (some false)) ∧
  (∀ t o K, ifn true o (.ifc t) K = sbk o K (some false)) ∧
  (∀ t k n K, mki true t (.int k n) K = K (.raw (.iface t (.int k n))) []) ∧
  (∀ t v, Value.oneCell' (.iface t v) = true) ∧
  (Value.oneCell' .nilIface = true) ∧
  (∀ T t o k a k' b K, bin2 T t o (.int k a) (.int k' b) K = bin (isBoolT T t) o (.int k a) (.int k' b) K) ∧
  (∀ T t o a b K, bin2 T t o (.str a) (.str b) K = bin (isBoolT T t) o (.str a) (.str b) K) ∧
  (∀ T t o a b K, bin2 T t o (.bool a) (.bool b) K = bin (isBoolT T t) o (.bool a) (.bool b) K) ∧
  (∀ T t o xs ys K, bin2 T t o (.agg xs) (.agg ys) K = sbt T o xs ys K (T t)) ∧
  (∀ T t o K, bin2 T t o .nils .nils K = (isS1 (T t) = true ∧ sbk o K (some true))) ∧
  (∀ T t o a xs K, bin2 T t o (.far (a :: xs)) .nils K = (isS1 (T t) = true ∧ sbk o K (some false))) ∧
  (∀ T t o n c K, bin2 T t o (.raw (.slice none n c)) .nils K = (isS1 (T t) = true ∧ sbk o K (some true))) ∧
  (∀ T t o p n c K, bin2 T t o (.raw (.slice (some p) n c)) .nils K = (isS1 (T t) = true ∧ sbk o K (some false))) ∧
  (∀ e a b c, isS1 (some ⟨.slice e, a, b, c⟩) = true) ∧
  (∀ hp a c, elems hp (.raw (.slice a 0 c)) = some []) ∧
  (∀ hp a c, appd hp (.raw (.slice a 0 c)) = some []) ∧
  (∀ K b, sbk .eql K (some b) = K (.bool b)) ∧
  (∀ K b, sbk .neq K (some b) = K (.bool (!b))) ∧
  (∀ T i, fcmp T [] i [] [] = some true) ∧
  (∀ a b, fand (some a) (some b) = some (a && b)) ∧
  (∀ sz b z x y, fcmp1 (some ⟨.str, sz, b, z⟩) (.str x) (.str y) = some (decide (x = y))) ∧
  (∀ sz b z x y, fcmp1 (some ⟨.bool, sz, b, z⟩) (.bool x) (.bool y) = some (x == y)) ∧
  (∀ T off ft fs i x xs y ys, fcmp T ((off, ft) :: fs) i (x :: xs) (y :: ys) = if off = i then fand (fcmp1 (T ft) x y) (fcmp T fs (i + 1) xs ys) else none) ∧
  (∀ P T d o t x K s, vop P T d (.unOp o t x) K s = unv o (s.ev x) K) ∧
  (∀ P T d a b x K s, vop P T d (.convert a b x) K s = convv s.hp (keyOf s d) K (ck T (T a) (T b)) (s.ev x)) ∧
  (∀ P T d t x lo hi K s, vop P T d (.slice t x lo hi none) K s = slv s.hp (lo.map s.ev) (hi.map s.ev) K (arrT T (T t)) (s.ev x) (T t) (elemT T (T t))) ∧
  (∀ P T d t x lo hi mx K s, vop P T d (.slice t x (some lo) (some hi) (some mx)) K s = slv3 s.hp (s.ev lo) (s.ev hi) (s.ev mx) K (s.ev x) (elemT T (T t))) ∧
  (∀ P T d t x f K s, vop P T d (.fieldAddr t x f) K s = fadv (cellsAt s.hp (s.ev x)) K (s.ev x) (fieldT T f (T t))) ∧
  (∀ P T d t x f K s, vop P T d (.field t x f) K s = fldv K (s.ev x) (fieldT T f (T t))) ∧
  (∀ P T d t x i K s, vop P T d (.indexAddr t x i) K s = ixav s.hp K (s.ev x) (s.ev i) (elemT T (T t)) (arrT T (T t))) ∧
  (∀ P T d t x i K s, vop P T d (.index t x i) K s = ixv K (s.ev x) (s.ev i) (isStr (T t)) (arrT T (T t))) ∧
  (∀ P T d t i K s, vop P T d (.extract t i) K s = extv i K (s.ev t)) ∧
  (∀ P T d f l K s, vop P T d (.makeFunc f (List.toArray []) (List.toArray l)) K s = (True ∧ K (.fn f (l.map s.ev)) [])) ∧
  (∀ P T d t x v K s, vop P T d (.store t x v) K s = stv s.hp (flat (s.ev v)) K (s.ev x) (szT (T t))) ∧
  (∀ P T d b l m K s, vop P T d (.call ⟨.builtin b, List.toArray l, List.toArray m⟩) K s = biv T s (keyOf s d) K b l m) ∧
  (∀ P T d f l m K s, vop P T d (.call ⟨.value f, List.toArray l, m⟩) K s = callv P s.hp (keyOf s d) (l.map s.ev) K (s.ev f)) ∧
  (∀ K v, k0 K v = K v []) ∧
  (∀ a b K, pickv (.bool true) a b K = K a []) ∧
  (∀ b x y K, pickv (.bool (!b)) x y K = pickv (.bool b) y x K) ∧
  (∀ w A B s, brg (.raw undef) w A B s = B s) ∧
  (∀ a b K, pickv (.bool false) a b K = K b []) ∧
  (∀ b k x y K K', bin b .shl (.int k x) (.int K' y) K = (0 ≤ y ∧ K (.int k (shl k x y)))) ∧
  (∀ b k x y K K', bin b .shr (.int k x) (.int K' y) K = (0 ≤ y ∧ K (.int k (shr k x y)))) ∧
  (∀ b k x y K, bin b .add (.int k x) (.int k y) K = (k = k ∧ K (.int k (k.wrap (x + y))))) ∧
  (∀ b k x y K, bin b .sub (.int k x) (.int k y) K = (k = k ∧ K (.int k (k.wrap (x - y))))) ∧
  (∀ b k x y K, bin b .mul (.int k x) (.int k y) K = (k = k ∧ K (.int k (k.wrap (x * y))))) ∧
  (∀ b k x y K, bin b .quo (.int k x) (.int k y) K = (k = k ∧ y ≠ 0 ∧ K (.int k (k.wrap (x.tdiv y))))) ∧
  (∀ b k x y K, bin b .rem (.int k x) (.int k y) K = (k = k ∧ y ≠ 0 ∧ K (.int k (x.tmod y)))) ∧
  (∀ b k x y K, bin b .and (.int k x) (.int k y) K = (k = k ∧ K (.int k (bits .and k x y)))) ∧
  (∀ b k x y K, bin b .or (.int k x) (.int k y) K = (k = k ∧ K (.int k (bits .or k x y)))) ∧
  (∀ b k x y K, bin b .xor (.int k x) (.int k y) K = (k = k ∧ K (.int k (bits .xor k x y)))) ∧
  (∀ b k x y K, bin b .eql (.int k x) (.int k y) K = (k = k ∧ K (.bool (decide (x = y))))) ∧
  (∀ b k x y K, bin b .neq (.int k x) (.int k y) K = (k = k ∧ K (.bool (!decide (x = y))))) ∧
  (∀ b k x y K, bin b .lss (.int k x) (.int k y) K = (k = k ∧ K (.bool (decide (x < y))))) ∧
  (∀ b k x y K, bin b .leq (.int k x) (.int k y) K = (k = k ∧ K (.bool (decide (x ≤ y))))) ∧
  (∀ b k x y K, bin b .gtr (.int k x) (.int k y) K = (k = k ∧ K (.bool (decide (y < x))))) ∧
  (∀ b k x y K, bin b .geq (.int k x) (.int k y) K = (k = k ∧ K (.bool (decide (y ≤ x))))) ∧
  (∀ b x y K, bin b .add (.str x) (.str y) K = (x.size + y.size ≤ 9223372036854775807 ∧ K (.str (x ++ y)))) ∧
  (∀ b x y K, bin b .eql (.str x) (.str y) K = K (.bool (decide (x = y)))) ∧
  (∀ b x y K, bin b .neq (.str x) (.str y) K = K (.bool (!decide (x = y)))) ∧
  (∀ b x y K, bin b .lss (.str x) (.str y) K = K (.bool (Op.bytesLess x.toList y.toList))) ∧
  (∀ b x y K, bin b .leq (.str x) (.str y) K = K (.bool (Op.bytesLess x.toList y.toList || decide (x = y)))) ∧
  (∀ b x y K, bin b .gtr (.str x) (.str y) K = K (.bool (!(Op.bytesLess x.toList y.toList || decide (x = y))))) ∧
  (∀ b x y K, bin b .geq (.str x) (.str y) K = K (.bool (!Op.bytesLess x.toList y.toList))) ∧
  (∀ b x y K, bin b .eql (.bool x) (.bool y) K = (b = true ∧ K (.bool (x == y)))) ∧
  (∀ b x y K, bin b .neq (.bool x) (.bool y) K = (b = true ∧ K (.bool (!(x == y))))) ∧
  (∀ b K, unv .not (.bool b) K = K (.bool (!b)) []) ∧
  (∀ k n K, unv .neg (.int k n) K = K (.int k (k.wrap (0 - n))) []) ∧
  (∀ a b c, isBo (some ⟨.bool, a, b, c⟩) = true) ∧
  (∀ q ti a b z hp key K, allocv q (some ⟨ti, a, b, z⟩) hp key K = ((hget hp key).isNone = true ∧ K (.ref key 0) [(key, .box q z)])) ∧
  (∀ q vs hp key K, boxv q vs hp key K = (vs.all cell1 = true ∧ (hget hp key).isNone = true ∧ K (.ref key 0) [(key, .box q vs)])) ∧
  (∀ T fs a b z l K, buildv T (some ⟨.struct fs, a, b, z⟩) l K = bdv T fs l (aggk K) z) ∧
  (∀ T m e a b z l K, buildv T (some ⟨.arr m e, a, b, z⟩) l K = buildA T (T e) m e z l (aggk K)) ∧
  (∀ T ti sz by' z' m e z l K, buildA T (some ⟨ti, sz, by', z'⟩) m e z l K = bdv T ((List.range m).map fun i => (i * sz, e)) l K z) ∧
  (∀ K cs, aggk K cs = K (.agg cs) []) ∧
  (∀ T fs K cs, bdv T fs [] K cs = K cs) ∧
  (∀ T fs i x r K cs, bdv T fs ((i, x) :: r) K cs = bd1 T (fs[i]?) cs x (bdv T fs r K)) ∧
  (∀ T off ft cs x J, bd1 T (some (off, ft)) cs x J = bd2 (T ft) off cs x J) ∧
  (∀ ti sz by' z off cs x J, bd2 (some ⟨ti, sz, by', z⟩) off cs x J = ((flat x).length = sz ∧ okPart x = true ∧ off + sz ≤ cs.length ∧ J (splice cs off (flat x)))) ∧
  (∀ T e a b c, elemT T (some ⟨.slice e, a, b, c⟩) = T e) ∧
  (∀ T a b c, elemT T (some ⟨.str, a, b, c⟩) = none) ∧
  (∀ T n e a b c, elemT T (some ⟨.arr n e, a, b, c⟩) = none) ∧
  (∀ T e a b c, elemT T (some ⟨.ptr e, a, b, c⟩) = none) ∧
  (∀ ti sz by' z hp key len ix l K, bslv (some ⟨ti, sz, by', z⟩) hp key len ix l K = (0 < sz ∧ len * sz ≤ 16777216 ∧ seqOk ix 0 = true ∧ l.length = len ∧ clol (elp sz) l ∧ (hget hp key).isNone = true ∧ K (.row key len) [(key, .row ⟨sz, 0⟩ l)])) ∧
  (∀ f, clol f [] = True) ∧
  (∀ f x r, clol f (x :: r) = (f x ∧ clol f r)) ∧
  (∀ sz x, elp sz x = ((flat x).length = sz ∧ (flat x).all cell1 = true ∧ (flat x).all data1 = true)) ∧
  (∀ k, seqOk [] k = true) ∧
  (∀ i r k, seqOk (i :: r) k = (i == k && seqOk r (k + 1))) ∧
  (∀ ti sz by' z hp key k n k' m K, mkv (some ⟨ti, sz, by', z⟩) hp key (.int k n) (.int k' m) K = (0 < sz ∧ 0 ≤ n ∧ n ≤ m ∧ m ≤ 281474976710656 ∧ m * by' ≤ 281474976710656 ∧ (hget hp key).isNone = true ∧ K (.row key n.toNat) [(key, .row ⟨sz, 0⟩ (List.replicate n.toNat (zeroElem ⟨ti, sz, by', z⟩)))])) ∧
  (∀ ti sz by' z cs K, ldv (some ⟨ti, sz, by', z⟩) (some cs) K = ld1 ti.agg sz cs K) ∧
  (∀ sz cs K, ld1 true sz cs K = (0 < sz ∧ sz ≤ cs.length ∧ K (.agg (cs.take sz)) [])) ∧
  (∀ sz cs K, ld1 false sz cs K = (0 < cs.length ∧ K (cs.getD 0 .junk) [])) ∧
  (TI.agg .bool = false) ∧
  (∀ k, TI.agg (.int k) = false) ∧
  (TI.agg .str = false) ∧
  (∀ e, TI.agg (.slice e) = false) ∧
  (∀ n e, TI.agg (.arr n e) = true) ∧
  (∀ fs, TI.agg (.struct fs) = true) ∧
  (∀ e, TI.agg (.ptr e) = false) ∧
  (TI.agg .other = false) ∧
  (∀ x K cs, nilv x K (some cs) = K x []) ∧
  (∀ hp xs, cellsAt hp (.fel xs) = some xs) ∧
  (∀ q cs off, cbox (some (.box q cs)) off = some (cs.drop off)) ∧
  (∀ T a b c d k e f g, ck T (some ⟨.int d, a, b, c⟩) (some ⟨.int k, e, f, g⟩) = .int k) ∧
  (∀ T a b c e f g, ck T (some ⟨.str, a, b, c⟩) (some ⟨.str, e, f, g⟩) = .str) ∧
  (∀ T x a b c e f g, ck T (some ⟨.slice x, a, b, c⟩) (some ⟨.str, e, f, g⟩) = if isU8 (T x) then .b2s else .no) ∧
  (∀ T x a b c e f g, ck T (some ⟨.str, a, b, c⟩) (some ⟨.slice x, e, f, g⟩) = if isU8 (T x) then .s2b else .no) ∧
  (∀ a b, isU8 (some ⟨.int .u8, 1, a, b⟩) = true) ∧
  (∀ hp key K k k' n, convv hp key K (.int k) (.int k' n) = K (.int k (k.wrap n)) []) ∧
  (∀ hp key K s, convv hp key K .str (.str s) = K (.str s) []) ∧
  (∀ hp key K s, convv hp key K .s2b (.str s) = ((hget hp key).isNone = true ∧ K (.row key s.size) [(key, .row ⟨1, 0⟩ (bytesP s))])) ∧
  (∀ hp key K x, convv hp key K .b2s x = b2s K (elems hp x)) ∧
  (∀ K xs, b2s K (some xs) = ((∀ z ∈ xs, isByte z) ∧ K (.str (strP xs)) [])) ∧
  (∀ ti sz by' z, szT (some ⟨ti, sz, by', z⟩) = some sz) ∧
  (∀ s K l h, slS s K l h = K (.str (s.extract l h)) []) ∧
  (∀ b cs K l h, slA b cs K l h = K (.far ((cs.take h).drop l)) [(b, .dead)]) ∧
  (∀ xs K l h, slF xs K l h = K (.far ((xs.take h).drop l)) []) ∧
  (∀ g n K l h, slR g n K l h = K (.view g n l h) []) ∧
  (∀ lo hi g n z K sz xs, slrow lo hi g n z K (some (.row sz xs)) = (n = xs.length ∧ z = sz ∧ bounds n lo hi (slR g n K))) ∧
  (∀ hp lo hi K s a b c o ar, slv hp lo hi K ar (.str s) (some ⟨.str, a, b, c⟩) o = bounds s.size lo hi (slS s K)) ∧
  (∀ hp lo hi K xs o ti sz by' z ar, slv hp lo hi K ar (.far xs) o (some ⟨ti, sz, by', z⟩) = (lenA sz xs ∧ bounds xs.length lo hi (slF xs K))) ∧
  (∀ hp lo hi K b x y m o, slv hp lo hi K (some (m, o)) (.ref b 0) x y = slarr lo hi K b m o (hget hp b)) ∧
  (∀ lo hi K b m ti sz by' z q cs, slarr lo hi K b m (some ⟨ti, sz, by', z⟩) (some (.box q cs)) = (sz = 1 ∧ cs.length = m ∧ cs.all data1 = true ∧ bounds m lo hi (slA b cs K))) ∧
  (∀ hp lo hi K g n o ti sz by' z ar, slv hp lo hi K ar (.row g n) o (some ⟨ti, sz, by', z⟩) = slrow lo hi g n sz K (hget hp g)) ∧
  (∀ hp lo hi K g n h0 o ti sz by' z ar, slv hp lo hi K ar (.view g n 0 h0) o (some ⟨ti, sz, by', z⟩) = slview lo hi g n h0 sz K (hget hp g)) ∧
  (∀ lo hi g n h0 z K sz xs, slview lo (some hi) g n h0 z K (some (.row sz xs)) = (n = xs.length ∧ z = sz ∧ bounds n lo (some hi) (slR g n K))) ∧
  (∀ lo g n h0 z K sz xs, slview lo none g n h0 z K (some (.row sz xs)) = (n = xs.length ∧ z = sz ∧ bounds h0 lo none (slR g n K))) ∧
  (∀ hp lo hi mx K g n te, slv3 hp lo hi mx K (.row g n) (some te) = sl3 lo hi mx n K (hget hp g)) ∧
  (∀ lo hi mx n K sz xs, sl3 lo hi mx n K (some (.row sz xs)) = (n = xs.length ∧ bnd3 n lo hi mx ∧ K .junk [])) ∧
  (∀ n k k' k'' l h m, bnd3 n (.int k l) (.int k' h) (.int k'' m) = (0 ≤ l ∧ l ≤ h ∧ h ≤ m ∧ m ≤ n)) ∧
  (∀ len K, bounds len none none K = K 0 len) ∧
  (∀ len k l K, bounds len (some (.int k l)) none K = (0 ≤ l ∧ l ≤ len ∧ K l.toNat len)) ∧
  (∀ len k l K, bounds len none (some (.int k l)) K = (0 ≤ l ∧ l ≤ len ∧ K 0 l.toNat)) ∧
  (∀ len k l k' h K, bounds len (some (.int k l)) (some (.int k' h)) K = (0 ≤ l ∧ l ≤ h ∧ h ≤ len ∧ K l.toNat h.toNat)) ∧
  (∀ T off ft, fieldU T (some (off, ft)) = some (off, T ft)) ∧
  (∀ T f fs a b c, fieldT T f (some ⟨.struct fs, a, b, c⟩) = fieldU T (fs[f]?)) ∧
  (∀ K off b o x c, fad K off (.ref b o) x c = K (.ref b (o + off)) []) ∧
  (∀ K off g n i o x c, fad K off (.elt g n i o) x c = K (.elt g n i (o + off)) []) ∧
  (∀ K off xs x c, fad K off (.fel xs) x c = K (.fel (xs.drop off)) []) ∧
  (∀ cs K x off ti sz by' z, fadv cs K x (some (off, some ⟨ti, sz, by', z⟩)) = (0 < sz ∧ nilv x (fad K off x) cs)) ∧
  (∀ K cs off ti sz by' z, fldv K (.agg cs) (some (off, some ⟨ti, sz, by', z⟩)) = fl1 K cs off sz ti.agg) ∧
  (∀ K cs off sz, fl1 K cs off sz true = (off + sz ≤ cs.length ∧ K (.agg ((cs.drop off).take sz)) [])) ∧
  (∀ K cs off sz, fl1 K cs off sz false = (off < cs.length ∧ K (cs.getD off .junk) [])) ∧
  (∀ T m e a b c, arrT T (some ⟨.arr m e, a, b, c⟩) = some (m, T e)) ∧
  (∀ T a b c, arrT T (some ⟨.str, a, b, c⟩) = none) ∧
  (∀ T e a b c, arrT T (some ⟨.slice e, a, b, c⟩) = none) ∧
  (∀ T e a b c, arrT T (some ⟨.ptr e, a, b, c⟩) = none) ∧
  (∀ hp K xs k j o m ti sz by' z, ixav hp K (.fel xs) (.int k j) o (some (m, some ⟨ti, sz, by', z⟩)) = (0 ≤ j ∧ j < m ∧ K (.fel (xs.drop (j.toNat * sz))) [])) ∧
  (∀ K m j x c, ixb K m j x c = (0 ≤ j ∧ j < m ∧ K x c)) ∧
  (∀ g n j z K sz xs, ixr g n j z K (some (.row sz xs)) = (n = xs.length ∧ sz = z ∧ 0 ≤ j ∧ j < n ∧ K (.elt g n j.toNat 0) [])) ∧
  (∀ g n lo hi j z K sz xs, ixw g n lo hi j z K (some (.row sz xs)) = (n = xs.length ∧ sz = z ∧ 0 ≤ j ∧ j < ((hi - lo : Nat) : Int) ∧ K (.elt g n (lo + j.toNat) 0) [])) ∧
  (∀ hp K xs k j ti sz by' z o, ixav hp K (.far xs) (.int k j) (some ⟨ti, sz, by', z⟩) o = (0 ≤ j ∧ j < xs.length ∧ (flat (xs.getD j.toNat .junk)).length = sz ∧ K (.fel (flat (xs.getD j.toNat .junk))) [])) ∧
  (∀ hp K g n k j ti sz by' z o, ixav hp K (.row g n) (.int k j) (some ⟨ti, sz, by', z⟩) o = ixr g n j sz K (hget hp g)) ∧
  (∀ hp K g n lo hi k j ti sz by' z o, ixav hp K (.view g n lo hi) (.int k j) (some ⟨ti, sz, by', z⟩) o = ixw g n lo hi j sz K (hget hp g)) ∧
  (∀ hp K b off k j o m ti sz by' z, ixav hp K (.ref b off) (.int k j) o (some (m, some ⟨ti, sz, by', z⟩)) = nilv (.ref b (off + j.toNat * sz)) (ixb K m j) (cellsAt hp (.ref b off))) ∧
  (∀ a b c, isStr (some ⟨.str, a, b, c⟩) = true) ∧
  (∀ e a b c, isStr (some ⟨.slice e, a, b, c⟩) = false) ∧
  (∀ e f a b c, isStr (some ⟨.arr e f, a, b, c⟩) = false) ∧
  (∀ K s k j o, ixv K (.str s) (.int k j) true o = (0 ≤ j ∧ j < s.size ∧ K (.int .u8 (bt s j)) [])) ∧
  (∀ K cs k j b m ti sz by' z, ixv K (.agg cs) (.int k j) b (some (m, some ⟨ti, sz, by', z⟩)) = (ti.agg = false ∧ 0 ≤ j ∧ j < m ∧ j.toNat * sz < cs.length ∧ K (cs.getD (j.toNat * sz) .junk) [])) ∧
  (∀ i K xs, extv i K (.tup xs) = (i < xs.length ∧ K (xs.getD i .junk) [])) ∧
  (∀ K s b, lenv K (.str s) none b true = K (.int .i64 s.size) []) ∧
  (∀ K x xs b, lenv K x (some xs) true b = K (.int .i64 xs.length) []) ∧
  (∀ e a b c, isSl (some ⟨.slice e, a, b, c⟩) = true) ∧
  (∀ a b c, isSl (some ⟨.str, a, b, c⟩) = false) ∧
  (∀ K k a b, minv false K (.int k a) (.int k b) = (k = k ∧ K (.int k (if b < a then b else a)) [])) ∧
  (∀ K k a b, minv true K (.int k a) (.int k b) = (k = k ∧ K (.int k (if b > a then b else a)) [])) ∧
  (∀ P hp key xs K g caps, callv P hp key xs K (.fn (.func g) caps) = Call P hp key (xs ++ caps) g K) ∧
  (∀ b off z vs K q cs, stb b off z vs K (some (.box q cs)) = (off + z ≤ cs.length ∧ K .junk [(b, .box q (splice cs off vs))])) ∧
  (∀ g n i off z vs K sz xs, ste g n i off z vs K (some (.row sz xs)) = (n = xs.length ∧ i < n ∧ off + z ≤ sz ∧ vs.all data1 = true ∧ K .junk [(g, .row sz (xs.set i (upd (xs.getD i .junk) off vs)))])) ∧
  (∀ hp vs K b off z, stv hp vs K (.ref b off) (some z) = (vs.length = z ∧ 0 < z ∧ vs.all cell1 = true ∧ stb b off z vs K (hget hp b))) ∧
  (∀ hp vs K g n i off z, stv hp vs K (.elt g n i off) (some z) = (vs.length = z ∧ 0 < z ∧ vs.all cell1 = true ∧ ste g n i off z vs K (hget hp g))) ∧
  (∀ g n sz by' e ys K z q xs, apr g n sz by' e ys K (some (.row ⟨z, q⟩ xs)) = (n = xs.length ∧ (z = sz ∧ tyOk q e) ∧ (xs ++ ys).length * by' ≤ 140737488355328 ∧ K (.row g (xs ++ ys).length) [(g, .row ⟨z, q⟩ (xs ++ ys))])) ∧
  (∀ g n lo hi sz ys K z q xs, apw g n lo hi sz ys K (some (.row ⟨z, q⟩ xs)) = (n = xs.length ∧ z = sz ∧ hi + ys.length ≤ n ∧ K (.view g n lo (hi + ys.length)) [(g, .row ⟨z, q⟩ (xs.take hi ++ ys ++ xs.drop (hi + ys.length)))])) ∧
  (∀ hp key sz by' e y ys K g n, apx hp key sz by' e y ys K (.row g n) = apr g n sz by' e ys K (hget hp g)) ∧
  (∀ hp key sz by' e y ys K g n lo hi, apx hp key sz by' e y ys K (.view g n lo hi) = apw g n lo hi sz ys K (hget hp g)) ∧
  (∀ hp key sz by' e y ys K, apx hp key sz by' e y ys K .nils = ((hget hp key).isNone = true ∧ 0 < ys.length ∧ ys.length * by' ≤ 140737488355328 ∧ K (.row key ys.length) [(key, .row ⟨sz, qof y e⟩ ys)])) ∧
  (∀ s e, qof (.str s) e = e) ∧
  (∀ xs e, qof (.far xs) e = 0) ∧
  (∀ g n e, qof (.row g n) e = 0) ∧
  (∀ g n l h e, qof (.view g n l h) e = 0) ∧
  (∀ e, qof .nils e = 0) ∧
  (∀ e sz by' z, elemI (some ⟨.slice e, sz, by', z⟩) = e) ∧
  (∀ hp key x y e K ti sz by' z ys, apv hp key x y e K (some ⟨ti, sz, by', z⟩) true (some ys) = (0 < sz ∧ 0 < by' ∧ elOk sz ys ∧ apx hp key sz by' e y ys K x)) ∧
  (∀ T s key K x y t u, biv T s key K .append [x, y] [t, u] = apv s.hp key (s.ev x) (s.ev y) (elemI (T t)) K (elemT T (T t)) (isSl (T u) || isStr (T u)) (appd s.hp (s.ev y))) ∧
  (∀ T s key K x t, biv T s key K .len [x] [t] = lenv K (s.ev x) (elems s.hp (s.ev x)) (isSl (T t)) (isStr (T t))) ∧
  (∀ T s key K x y t, biv T s key K .min [x, y] t = minv false K (s.ev x) (s.ev y)) ∧
  (∀ T s key K x y t, biv T s key K .max [x, y] t = minv true K (s.ev x) (s.ev y)) ∧
  (∀ T s key K x t, biv T s key K .clear [x] [t] = clv K (s.ev x) (elemT T (T t)) s.hp) ∧
  (∀ K g n lo hi ti sz by' z hp, clv K (.view g n lo hi) (some ⟨ti, sz, by', z⟩) hp = clr g n lo hi sz K (hget hp g)) ∧
  (∀ g n lo hi z K sz xs, clr g n lo hi z K (some (.row sz xs)) = (n = xs.length ∧ sz.sz = z ∧ lo < hi ∧ hi ≤ n ∧ K .junk [(g, .row sz (xs.take lo ++ List.replicate (hi - lo) (.agg (List.replicate sz.sz .junk)) ++ xs.drop hi))])) ∧
  (∀ sz, elOk sz [] = True) ∧
  (∀ sz x r, elOk sz (x :: r) = (((flat x).length = sz ∧ (flat x).all cell1 = true) ∧ elOk sz r)) ∧
  (∀ hp xs, elems hp (.far xs) = some xs) ∧
  (∀ hp, elems hp .nils = some []) ∧
  (∀ hp s, elems hp (.str s) = none) ∧
  (∀ hp b, appd hp (.str b) = some (bytesP b)) ∧
  (∀ hp xs, appd hp (.far xs) = some xs) ∧
  (∀ hp, appd hp .nils = some []) ∧
  (∀ cs off vs, splice cs off vs = cs.take off ++ vs ++ cs.drop (off + vs.length)) ∧
  (∀ xs, flat (.agg xs) = xs) ∧
  (∀ k n, flat (.int k n) = [.int k n]) ∧
  (∀ b, flat (.bool b) = [.bool b]) ∧
  (∀ b, flat (.str b) = [.str b]) ∧
  (∀ b, flat (.raw b) = [.raw b]) ∧
  (∀ b, flat (.ifc b) = [.ifc b]) ∧
  (flat .nils = [.nils]) ∧
  (flat .nilp = [.nilp]) ∧
  (∀ x, flat (.far x) = [.far x]) ∧
  (∀ x, flat (.fel x) = [.fel x]) ∧
  (∀ f x, flat (.fn f x) = [.fn f x]) ∧
  (∀ g n, flat (.row g n) = [.row g n]) ∧
  (∀ g n l h, flat (.view g n l h) = [.view g n l h]) ∧
  (∀ g n, flat (.ref g n) = [.ref g n]) ∧
  (∀ g n i o, flat (.elt g n i o) = [.elt g n i o]) ∧
  (∀ xs, okPart (.agg xs) = true) ∧
  (∀ k n, okPart (.int k n) = true) ∧
  (∀ b, okPart (.bool b) = true) ∧
  (∀ b, okPart (.str b) = true) ∧
  (okPart .nils = true) ∧
  (okPart .nilp = true) ∧
  (∀ x, okPart (.far x) = true) ∧
  (∀ x, okPart (.fel x) = true) ∧
  (∀ g n, okPart (.row g n) = true) ∧
  (∀ g n l h, okPart (.view g n l h) = true) ∧
  (∀ g n, okPart (.ref g n) = true) ∧
  (∀ b, okPart (.raw b) = b.oneCell') ∧
  (∀ b, okPart (.ifc b) = true) ∧
  (∀ k n, cell1 (.int k n) = true) ∧
  (∀ b, cell1 (.bool b) = true) ∧
  (∀ b, cell1 (.str b) = true) ∧
  (cell1 .nils = true) ∧
  (cell1 .nilp = true) ∧
  (∀ x, cell1 (.far x) = true) ∧
  (∀ x, cell1 (.fel x) = true) ∧
  (∀ f x, cell1 (.fn f x) = true) ∧
  (∀ g n, cell1 (.row g n) = true) ∧
  (∀ g n l h, cell1 (.view g n l h) = true) ∧
  (∀ g n, cell1 (.ref g n) = true) ∧
  (∀ b, cell1 (.raw b) = b.oneCell') ∧
  (∀ b, cell1 (.ifc b) = true) ∧
  (∀ k n, data1 (.int k n) = true) ∧
  (∀ b, data1 (.bool b) = true) ∧
  (∀ b, data1 (.str b) = true) ∧
  (data1 .nils = true) ∧
  (data1 .nilp = true) ∧
  (∀ x, data1 (.far x) = true) ∧
  (∀ x, data1 (.fel x) = true) ∧
  (∀ b, data1 (.raw b) = true) ∧
  (∀ b, data1 (.ifc b) = true) ∧
  (∀ ti sz by' z, zeroElem ⟨ti, sz, by', z⟩ = zeroV ti.agg z) ∧
  (∀ z, zeroV true z = .agg z) ∧
  (∀ z, zeroV false z = z.getD 0 .junk) ∧
  (∀ ys off vs, upd (.agg ys) off vs = .agg (splice ys off vs)) ∧
  (∀ k n off v, upd (.int k n) off [v] = v) ∧
  (∀ b off v, upd (.str b) off [v] = v) ∧
  (∀ b off v, upd (.bool b) off [v] = v) ∧
  (∀ P T ds s0 K xs i acc, dr P T ds s0 K [] xs i acc = K (app acc s0)) ∧
  (∀ P T ds s0 K d op ty pos af g r an lo ks xs i acc, dr P T ds s0 K (⟨d, op, ty, pos, af, g⟩ :: r) ((an, lo, ks) :: xs) i acc = (dstOk s0 d ∧ dg P T ds g ⟨d, op, ty, pos, af, g⟩ an i acc (dr P T ds s0 K r xs (i + 1)) (look2 (mv op) lo ks an acc s0))) ∧
  (∀ P T ds o an i acc J st, dg P T ds none o an i acc J st = dop P T o an i acc J st) ∧
  (∀ P T ds j w o an i acc J st, dg P T ds (some (j, w)) o an i acc J st = brg (nthd ds j st) w (dop P T o an i acc J) (dsk o an i acc J) st) ∧
  (∀ P T d op ty pos af g an i acc J st, dop P T ⟨d, op, ty, pos, af, g⟩ an i acc J st = dox P T (mv op) d op ⟨d, op, ty, pos, af, g⟩ an i acc J st) ∧
  (∀ P T x d op o an i acc J st, dox P T (some x) d op o an i acc J st = dm o an i acc J st (st.ev x)) ∧
  (∀ P T d op o an i acc J st, dox P T none d op o an i acc J st = (Ck (okSt st) ∧ vop P T d op (dk o an i acc J st) st)) ∧
  (∀ o an i acc J st, dsk o an i acc J st = dm o an i acc J st (.raw undef)) ∧
  (∀ d op ty pos af g an i acc J st v, dm ⟨d, op, ty, pos, af, g⟩ an i acc J st v = (Ck (ckAll ⟨i, an, d, v, [], st⟩ acc) ∧ J (⟨i, an, d, v, [], st⟩ :: acc))) ∧
  (∀ d op ty pos af g an i acc J st v c, dk ⟨d, op, ty, pos, af, g⟩ an i acc J st v c = (Ck (cl3 (told c st.hp) v && clHp (told c st.hp) c && ckAll ⟨i, an, d, v, c, st⟩ acc) ∧ J (⟨i, an, d, v, c, st⟩ :: acc))) ∧
  (∀ s, app [] s = s) ∧
  (∀ i an d v c st r s, app (⟨i, an, d, v, c, st⟩ :: r) s = (app r s).put d v c) ∧
  (∀ m lo ks an acc n tm hp, look2 m lo ks an acc ⟨n, tm, hp⟩ = ⟨n, lo.map (lkt an acc tm), lkH m ks (happ an acc hp)⟩) ∧
  (∀ an acc tm t, lkt an acc tm t = (t, lka an acc tm t)) ∧
  (∀ an tm t, lka an [] tm t = tget tm t) ∧
  (∀ an i a d v c st r tm t, lka an (⟨i, a, some d, v, c, st⟩ :: r) tm t = if d = t then (if an.contains i then v else lka an r tm t) else lka an r tm t) ∧
  (∀ an i a v c st r tm t, lka an (⟨i, a, none, v, c, st⟩ :: r) tm t = lka an r tm t) ∧
  (∀ an hp, happ an [] hp = hp) ∧
  (∀ an i a d v st r hp, happ an (⟨i, a, d, v, [], st⟩ :: r) hp = happ an r hp) ∧
  (∀ an i a d v p c st r hp, happ an (⟨i, a, d, v, p :: c, st⟩ :: r) hp = if an.contains i then (p :: c) ++ happ an r hp else happ an r hp) ∧
  (∀ x ks hp, lkH (some x) ks hp = []) ∧
  (∀ hp, lkH none [] hp = hp) ∧
  (∀ k r hp, lkH none (k :: r) hp = (k, .dead) :: lkH none r hp) ∧
  (∀ x, mv (.move x) = some x) ∧
  (∀ x, mv (.assign x) = some x) ∧
  (∀ c a b, mv (.pick c a b) = none) ∧
  (∀ e, mv (.alloc e) = none) ∧
  (∀ e x, mv (.box e x) = none) ∧
  (∀ t l, mv (.build t l) = none) ∧
  (∀ t n l, mv (.buildSlice t n l) = none) ∧
  (∀ t l c, mv (.makeSlice t l c) = none) ∧
  (∀ t a, mv (.load t a) = none) ∧
  (∀ x, mv (.nilCheck x) = none) ∧
  (∀ o t x y u, mv (.binOp o t x y u) = none) ∧
  (∀ t x, mv (.makeInterface t x) = none) ∧
  (∀ o t x, mv (.unOp o t x) = none) ∧
  (∀ a b x, mv (.convert a b x) = none) ∧
  (∀ t x l h m, mv (.slice t x l h m) = none) ∧
  (∀ t x f, mv (.fieldAddr t x f) = none) ∧
  (∀ t x f, mv (.field t x f) = none) ∧
  (∀ t x i, mv (.indexAddr t x i) = none) ∧
  (∀ t x i, mv (.index t x i) = none) ∧
  (∀ t i, mv (.extract t i) = none) ∧
  (∀ f a b, mv (.makeFunc f a b) = none) ∧
  (∀ t x v, mv (.store t x v) = none) ∧
  (∀ c, mv (.call c) = none) ∧
  (∀ T rs Q s, FinV T rs Q s = finr Q s.hp (resv T s rs)) ∧
  (∀ Q hp xs, finr Q hp (some xs) = finq Q (frz hp (oneOf xs))) ∧
  (∀ Q y, finq Q (some y) = Q y) ∧
  (∀ T s, resv T s [] = some []) ∧
  (∀ x xs, rsc x (some xs) = some (x :: xs)) ∧
  (∀ ti sz by' z cs ys, rsd (some ⟨ti, sz, by', z⟩) (some cs) (some ys) = rse ti.agg sz cs ys) ∧
  (∀ sz cs ys, rse true sz cs ys = if 0 < sz ∧ sz ≤ cs.length then some (.agg (cs.take sz) :: ys) else none) ∧
  (∀ sz c cs ys, rse false sz (c :: cs) ys = some (c :: ys)) ∧
  (oneOf [] = .tup []) ∧
  (∀ x, oneOf [x] = x) ∧
  (∀ x y r, oneOf (x :: y :: r) = .tup (x :: y :: r)) ∧
  (∀ f, cvtl f [] = some []) ∧
  (∀ y ys, cvc (some y) (some ys) = some (y :: ys)) ∧
  (∀ hp xs, frz hp (.tup xs) = (cvtl (frz2 hp) xs).map .tup) ∧
  (∀ hp k n, frz hp (.int k n) = some (.int k n)) ∧
  (∀ hp b, frz hp (.bool b) = some (.bool b)) ∧
  (∀ hp b, frz hp (.str b) = some (.str b)) ∧
  (∀ hp b, frz hp (.raw b) = some (.raw b)) ∧
  (∀ hp b, frz hp (.ifc b) = some (.ifc b)) ∧
  (∀ hp, frz hp .nilp = some .nilp) ∧
  (∀ hp, frz hp .junk = some .junk) ∧
  (∀ hp xs, frz hp (.far xs) = some (.far xs)) ∧
  (∀ hp xs, frz hp (.fel xs) = some (.fel xs)) ∧
  (∀ hp, frz hp .nils = some (.far [])) ∧
  (∀ hp xs, frz hp (.agg xs) = (cvtl (frz1 hp) xs).map .agg) ∧
  (∀ hp k n, frz2 hp (.int k n) = some (.int k n)) ∧
  (∀ hp b, frz2 hp (.bool b) = some (.bool b)) ∧
  (∀ hp b, frz2 hp (.str b) = some (.str b)) ∧
  (∀ hp b, frz2 hp (.raw b) = some (.raw b)) ∧
  (∀ hp b, frz2 hp (.ifc b) = some (.ifc b)) ∧
  (∀ hp, frz2 hp .nilp = some .nilp) ∧
  (∀ hp, frz2 hp .junk = some .junk) ∧
  (∀ hp xs, frz2 hp (.far xs) = some (.far xs)) ∧
  (∀ hp xs, frz2 hp (.fel xs) = some (.fel xs)) ∧
  (∀ hp, frz2 hp .nils = some (.far [])) ∧
  (∀ hp xs, frz2 hp (.agg xs) = (cvtl (frz1 hp) xs).map .agg) ∧
  (∀ hp k n, frz1 hp (.int k n) = some (.int k n)) ∧
  (∀ hp b, frz1 hp (.bool b) = some (.bool b)) ∧
  (∀ hp b, frz1 hp (.str b) = some (.str b)) ∧
  (∀ hp b, frz1 hp (.raw b) = some (.raw b)) ∧
  (∀ hp b, frz1 hp (.ifc b) = some (.ifc b)) ∧
  (∀ hp, frz1 hp .nilp = some .nilp) ∧
  (∀ hp, frz1 hp .junk = some .junk) ∧
  (∀ hp xs, frz1 hp (.far xs) = some (.far xs)) ∧
  (∀ hp xs, frz1 hp (.fel xs) = some (.fel xs)) ∧
  (∀ hp, frz1 hp .nils = some (.far [])) ∧
  (∀ hp R κ k n, cvt hp R κ (.int k n) = some (.int k n)) ∧
  (∀ hp R κ b, cvt hp R κ (.bool b) = some (.bool b)) ∧
  (∀ hp R κ b, cvt hp R κ (.str b) = some (.str b)) ∧
  (∀ hp R κ b, cvt hp R κ (.raw b) = some (.raw b)) ∧
  (∀ hp R κ b, cvt hp R κ (.ifc b) = some (.ifc b)) ∧
  (∀ hp R κ, cvt hp R κ .nilp = some .nilp) ∧
  (∀ hp R κ, cvt hp R κ .junk = some .junk) ∧
  (∀ hp R κ xs, cvt hp R κ (.far xs) = some (.far xs)) ∧
  (∀ hp R κ xs, cvt hp R κ (.fel xs) = some (.fel xs)) ∧
  (∀ hp R κ, cvt hp R κ .nils = some (.far [])) ∧
  (∀ hp R κ xs, cvt hp R κ (.agg xs) = (cvtl (cvt1 hp R κ) xs).map .agg) ∧
  (∀ hp R κ f xs, cvt hp R κ (.fn f xs) = (cvtl (cvt1 hp R κ) xs).map (.fn f)) ∧
  (∀ hp R κ k n, cvt1 hp R κ (.int k n) = some (.int k n)) ∧
  (∀ hp R κ b, cvt1 hp R κ (.bool b) = some (.bool b)) ∧
  (∀ hp R κ b, cvt1 hp R κ (.str b) = some (.str b)) ∧
  (∀ hp R κ b, cvt1 hp R κ (.raw b) = some (.raw b)) ∧
  (∀ hp R κ b, cvt1 hp R κ (.ifc b) = some (.ifc b)) ∧
  (∀ hp R κ, cvt1 hp R κ .nilp = some .nilp) ∧
  (∀ hp R κ, cvt1 hp R κ .junk = some .junk) ∧
  (∀ hp R κ xs, cvt1 hp R κ (.far xs) = some (.far xs)) ∧
  (∀ hp R κ xs, cvt1 hp R κ (.fel xs) = some (.fel xs)) ∧
  (∀ hp R κ, cvt1 hp R κ .nils = some (.far [])) ∧
  (∀ hp R κ k n, cvt0 hp R κ (.int k n) = some (.int k n)) ∧
  (∀ hp R κ b, cvt0 hp R κ (.bool b) = some (.bool b)) ∧
  (∀ hp R κ b, cvt0 hp R κ (.str b) = some (.str b)) ∧
  (∀ hp R κ b, cvt0 hp R κ (.raw b) = some (.raw b)) ∧
  (∀ hp R κ b, cvt0 hp R κ (.ifc b) = some (.ifc b)) ∧
  (∀ hp R κ, cvt0 hp R κ .nilp = some .nilp) ∧
  (∀ hp R κ, cvt0 hp R κ .junk = some .junk) ∧
  (∀ hp R κ xs, cvt0 hp R κ (.far xs) = some (.far xs)) ∧
  (∀ hp R κ xs, cvt0 hp R κ (.fel xs) = some (.fel xs)) ∧
  (∀ hp R κ, cvt0 hp R κ .nils = some .nils) ∧
  (∀ hp R g k n j, cvro hp R g (.row k n) (some j) = some (.row j n)) ∧
  (∀ hp R g k n, cvro hp R g (.row k n) none = if R.contains g then (elr (hget hp g) n).map .far else none) ∧
  (∀ hp R g n l h j, cvvi hp R g n l h (some j) = some (.view j n l h)) ∧
  (∀ hp R g n l h, cvvi hp R g n l h none = if R.contains g then (elv (hget hp g) n l h).map .far else none) ∧
  (∀ hp R g o j, cvre hp R g o (some j) = some (.ref j o)) ∧
  (∀ hp R g o, cvre hp R g o none = if R.contains g then ((cbox (hget hp g) o).bind (cvtl (cvt0 hp R []))).map .fel else none) ∧
  (∀ {α β : Type} (f : α → Option β) (x : α), Option.bind (some x) f = f x) ∧
  (∀ g j, idx [] g j = none) ∧
  (∀ k r g j, idx (k :: r) g j = if g = k then some j else idx r g (j + 1)) ∧
  (∀ hp K κ j, hand hp K κ [] j = some []) ∧
  (∀ hp K κ q cs j h, hnd hp K κ (some (.box q cs)) j (some h) = (cvtl (cvt0 hp K κ) cs).map (hnb j q h)) ∧
  (∀ hp K κ sz xs j h, hnd hp K κ (some (.row sz xs)) j (some h) = some ((j, .row sz xs) :: h)) ∧
  (∀ j q h ds, hnb j q h ds = (j, .box q ds) :: h) ∧
  (∀ κ R key hp ha K res hr, bk κ R key hp ha K res hr = (Ck (resOk res && hpB hr) ∧ nfR R res hr ∧ KeysOk hp (ln κ) key hr ∧ Mn ha hr (ln κ) ∧ K (rk (sg κ key) res) (rkH (sg κ key) hr ++ gone hr κ 0))) ∧
  (∀ res hr, nfR [] res hr = True) ∧
  (∀ k r res hr, nfR (k :: r) res hr = (Ck (nf res) ∧ nfH hr)) ∧
  (nfH [] = True) ∧
  (∀ k q cs r, nfH ((k, .box q cs) :: r) = (nfc cs ∧ nfH r)) ∧
  (∀ k sz xs r, nfH ((k, .row sz xs) :: r) = (nfx xs ∧ nfH r)) ∧
  (∀ k r, nfH ((k, .dead) :: r) = nfH r) ∧
  (∀ hp m key, KeysOk hp m key [] = True) ∧
  (∀ hp m key k c r, KeysOk hp m key ((k, c) :: r) = ((k < m ∨ 64 ≤ k ∧ hget hp (key + (k - 64)) = none) ∧ KeysOk hp m key r)) ∧
  (∀ ha hr, Mn ha hr 0 = True) ∧
  (∀ ha hr j, Mn ha hr (j + 1) = (mn1 (hget hr j) (hget ha j) ∧ Mn ha hr j)) ∧
  (∀ o, mn1 none o = True) ∧
  (∀ o, mn1 (some .dead) o = True) ∧
  (∀ q cs o, mn1 (some (.box q cs)) o = mnb q o) ∧
  (∀ sz xs o, mn1 (some (.row sz xs)) o = mnr sz xs o) ∧
  (∀ q q' cs, mnb q (some (.box q' cs)) = (q = q')) ∧
  (∀ sz xs sz' xs', mnr sz xs' (some (.row sz' xs)) = (sz = sz' ∧ xs.length ≤ xs'.length)) ∧
  (ln [] = 0) ∧
  (∀ k r, ln (k :: r) = ln r + 1) ∧
  (∀ hr j, gone hr [] j = []) ∧
  (∀ k h, gn k h none = (k, .dead) :: h) ∧
  (∀ k h c, gn k h (some c) = h) ∧
  (∀ κ key j, sg κ key j = if j < 64 then κ.getD j 0 else key + (j - 64)) ∧
  (∀ σ, rkH σ [] = []) ∧
  (∀ σ k q cs r, rkH σ ((k, .box q cs) :: r) = (σ k, .box q (cs.map (rk1 σ))) :: rkH σ r) ∧
  (∀ σ k sz xs r, rkH σ ((k, .row sz xs) :: r) = (σ k, .row sz xs) :: rkH σ r) ∧
  (∀ σ k r, rkH σ ((k, .dead) :: r) = (σ k, .dead) :: rkH σ r) ∧
  (∀ σ xs, rk σ (.tup xs) = .tup (xs.map (rk2 σ))) ∧
  (∀ σ xs, rk σ (.agg xs) = .agg (xs.map (rk1 σ))) ∧
  (∀ σ xs, rk2 σ (.agg xs) = .agg (xs.map (rk1 σ))) ∧
  (∀ (p : Prop), (True ∨ p) = True) ∧
  (∀ (p : Prop), (False ∨ p) = p) ∧
  (∀ (p : Prop), (p ∨ True) = True) ∧
  (∀ σ k n, rk σ (.int k n) = (.int k n)) ∧
  (∀ σ b, rk σ (.bool b) = (.bool b)) ∧
  (∀ σ b, rk σ (.str b) = (.str b)) ∧
  (∀ σ b, rk σ (.raw b) = (.raw b)) ∧
  (∀ σ b, rk σ (.ifc b) = (.ifc b)) ∧
  (∀ σ, rk σ .nilp = .nilp) ∧
  (∀ σ, rk σ .nils = .nils) ∧
  (∀ σ, rk σ .junk = .junk) ∧
  (∀ σ xs, rk σ (.far xs) = (.far xs)) ∧
  (∀ σ xs, rk σ (.fel xs) = (.fel xs)) ∧
  (∀ σ g n, rk σ (.row g n) = .row (σ g) n) ∧
  (∀ σ g n l h, rk σ (.view g n l h) = .view (σ g) n l h) ∧
  (∀ σ g n, rk σ (.ref g n) = .ref (σ g) n) ∧
  (∀ σ g n i o, rk σ (.elt g n i o) = .elt (σ g) n i o) ∧
  (∀ σ k n, rk2 σ (.int k n) = (.int k n)) ∧
  (∀ σ b, rk2 σ (.bool b) = (.bool b)) ∧
  (∀ σ b, rk2 σ (.str b) = (.str b)) ∧
  (∀ σ b, rk2 σ (.raw b) = (.raw b)) ∧
  (∀ σ b, rk2 σ (.ifc b) = (.ifc b)) ∧
  (∀ σ, rk2 σ .nilp = .nilp) ∧
  (∀ σ, rk2 σ .nils = .nils) ∧
  (∀ σ, rk2 σ .junk = .junk) ∧
  (∀ σ xs, rk2 σ (.far xs) = (.far xs)) ∧
  (∀ σ xs, rk2 σ (.fel xs) = (.fel xs)) ∧
  (∀ σ g n, rk2 σ (.row g n) = .row (σ g) n) ∧
  (∀ σ g n l h, rk2 σ (.view g n l h) = .view (σ g) n l h) ∧
  (∀ σ g n, rk2 σ (.ref g n) = .ref (σ g) n) ∧
  (∀ σ g n i o, rk2 σ (.elt g n i o) = .elt (σ g) n i o) ∧
  (∀ σ k n, rk1 σ (.int k n) = (.int k n)) ∧
  (∀ σ b, rk1 σ (.bool b) = (.bool b)) ∧
  (∀ σ b, rk1 σ (.str b) = (.str b)) ∧
  (∀ σ b, rk1 σ (.raw b) = (.raw b)) ∧
  (∀ σ b, rk1 σ (.ifc b) = (.ifc b)) ∧
  (∀ σ, rk1 σ .nilp = .nilp) ∧
  (∀ σ, rk1 σ .nils = .nils) ∧
  (∀ σ, rk1 σ .junk = .junk) ∧
  (∀ σ xs, rk1 σ (.far xs) = (.far xs)) ∧
  (∀ σ xs, rk1 σ (.fel xs) = (.fel xs)) ∧
  (∀ σ g n, rk1 σ (.row g n) = .row (σ g) n) ∧
  (∀ σ g n l h, rk1 σ (.view g n l h) = .view (σ g) n l h) ∧
  (∀ σ g n, rk1 σ (.ref g n) = .ref (σ g) n) ∧
  (∀ σ g n i o, rk1 σ (.elt g n i o) = .elt (σ g) n i o) ∧
  (∀ i, mk [] i = []) ∧
  (∀ x r i, mk (x :: r) i = (i, x) :: mk r (i + 1)) ∧
  (∀ {α β : Type} (f : α → β), Option.map f none = none) ∧
  (∀ {α β : Type} (f : α → β) (x : α), Option.map f (some x) = some (f x)) ∧
  (∀ {α β : Type} (f : α → β), List.map f [] = []) ∧
  (∀ {α β : Type} (f : α → β) (x : α) (l : List α), List.map f (x :: l) = f x :: List.map f l) ∧
  (∀ {α : Type} (l : List α), [] ++ l = l) ∧
  (∀ {α : Type} (x : α) (l m : List α), (x :: l) ++ m = x :: (l ++ m)) ∧
  (∀ {α : Type}, ([] : List α).length = 0) ∧
  (∀ {α : Type} (x : α) (l : List α), (x :: l).length = l.length + 1) ∧
  (∀ {α : Type} (l m : List α), (l ++ m).length = l.length + m.length) ∧
  (∀ {α β : Type} (f : α → β) (l : List α), (l.map f).length = l.length) ∧
  (∀ {α : Type} (n : Nat) (x : α), (List.replicate n x).length = n) ∧
  (∀ {α : Type} (l : List α) (i : Nat) (x : α), (l.set i x).length = l.length) ∧
  (∀ {α : Type} (l : List α), List.drop 0 l = l) ∧
  (∀ {α : Type} (i : Nat) (x : α) (l : List α), List.drop (i + 1) (x :: l) = List.drop i l) ∧
  (∀ {α : Type} (i : Nat), List.drop i ([] : List α) = []) ∧
  (∀ {α : Type} (l : List α), List.take 0 l = []) ∧
  (∀ {α : Type} (i : Nat) (x : α) (l : List α), List.take (i + 1) (x :: l) = x :: List.take i l) ∧
  (∀ {α : Type} (i : Nat), List.take i ([] : List α) = []) ∧
  (∀ {α : Type} (x d : α) (l : List α), (x :: l).getD 0 d = x) ∧
  (∀ {α : Type} (i : Nat) (x d : α) (l : List α), (x :: l).getD (i + 1) d = l.getD i d) ∧
  (∀ {α : Type} (x : α) (l : List α), (x :: l)[0]? = some x) ∧
  (∀ {α : Type} (i : Nat) (x : α) (l : List α), (x :: l)[i + 1]? = l[i]?) ∧
  (∀ {α : Type} (f : α → Bool), [].all f = true) ∧
  (∀ {α : Type} (f : α → Bool) (x : α) (l : List α), (x :: l).all f = (f x && l.all f)) ∧
  (∀ {α : Type} (l : List α), (List.toArray l).toList = l) ∧
  (∀ (x y : Nat) (l : List Nat), (x :: l).contains y = (y == x || l.contains y)) ∧
  (∀ (y : Nat), ([] : List Nat).contains y = false) ∧
  (∀ {α : Type}, (none : Option α).isNone = true) ∧
  (∀ {α : Type} (x : α), (some x).isNone = false) ∧
  (∀ (n : Nat), (n : Int).toNat = n) ∧
  (∀ (a b : Nat), ((a + b : Nat) : Int) = (a : Int) + (b : Int)) ∧
  (((0 : Nat) : Int) = 0) ∧
  (((1 : Nat) : Int) = 1) ∧
  (∀ n, IntKind.u8.wrap n = n % 256) ∧
  (∀ n, IntKind.u32.wrap n = n % 4294967296) ∧
  (∀ n, IntKind.u64.wrap n = n % 18446744073709551616) ∧
  (∀ (a b : ByteArray), (a ++ b).size = a.size + b.size) ∧
  (∀ (l : List UInt8), ByteArray.size ⟨List.toArray l⟩ = l.length) ∧
  (ByteArray.empty.size = 0) ∧
  (∀ (p : Prop), (True ∧ p) = p) ∧
  (∀ (p : Prop), (p ∧ True) = p) ∧
  (∀ {α : Type} (x : α), (x = x) = True) ∧
  (∀ (b : Bool), (true && b) = b) ∧
  (∀ (b : Bool), (false && b) = false) ∧
  (∀ (b : Bool), (b && true) = b) ∧
  (∀ (b : Bool), (true || b) = true) ∧
  (∀ (b : Bool), (false || b) = b) ∧
  (∀ (b : Bool), (b || false) = b) ∧
  ((!true) = false) ∧
  ((!false) = true) ∧
  (∀ e, tyOk 0 e = True) ∧
  (∀ e, tyOk e e = True) ∧
  (∀ l : List Int, strP (l.map (PV.int .u8)) = strOf l) ∧
  (∀ s, bytesP s = (bytesOf s).map (PV.int .u8)) ∧
  (∀ l : List Int, (∀ z ∈ l.map (PV.int .u8), isByte z) = (∀ x ∈ l, 0 ≤ x ∧ x < 256)) ∧
  (∀ (l : List Int) k, elOk 1 (l.map (PV.int k)) = True) ∧
  (∀ l : List ByteArray, elOk 1 (l.map PV.str) = True) ∧
  (∀ (l : List Int) k x, l.map (PV.int k) ++ [PV.int k x] = (l ++ [x]).map (PV.int k)) ∧
  (∀ (l : List ByteArray) x, l.map PV.str ++ [PV.str x] = (l ++ [x]).map PV.str) ∧
  (∀ (l : List Int) k, lenA 1 (l.map (PV.int k)) = True) ∧
  (∀ l : List ByteArray, lenA 1 (l.map PV.str) = True) ∧
  (∀ n k x, List.replicate n (PV.int k x) = (List.replicate n x).map (PV.int k)) ∧
  (∀ n x, List.replicate n (PV.str x) = (List.replicate n x).map PV.str) ∧
  (∀ (l : List Int) k i x, (l.map (PV.int k)).set i (PV.int k x) = (l.set i x).map (PV.int k)) ∧
  (∀ (l : List ByteArray) i x, (l.map PV.str).set i (PV.str x) = (l.set i x).map PV.str) ∧
  (∀ {α : Type} (f : α → PV) (l : List α) i, (l.map f).take i = (l.take i).map f) ∧
  (∀ {α : Type} (f : α → PV) (l : List α) i, (l.map f).drop i = (l.drop i).map f) ∧
  (∀ T s t r, resv T s (.tmp t :: r) = rsc (tget s.tm t) (resv T s r)) ∧
  (∀ T s p t r, resv T s (.cell p t :: r) = rsd (T t) (cellsAt s.hp (tget s.tm p)) (resv T s r)) ∧
  (∀ f x r, cvtl f (x :: r) = cvc (f x) (cvtl f r)) ∧
  (∀ hp g n, frz hp (.row g n) = if 64 ≤ g then (elr (hget hp g) n).map .far else none) ∧
  (∀ hp g n, frz2 hp (.row g n) = if 64 ≤ g then (elr (hget hp g) n).map .far else none) ∧
  (∀ hp g n, frz1 hp (.row g n) = if 64 ≤ g then (elr (hget hp g) n).map .far else none) ∧
  (∀ hp R κ g n, cvt hp R κ (.row g n) = cvro hp R g (.row g n) (idx κ g 0)) ∧
  (∀ hp R κ g n l h, cvt hp R κ (.view g n l h) = cvvi hp R g n l h (idx κ g 0)) ∧
  (∀ hp R κ g n, cvt1 hp R κ (.row g n) = cvro hp R g (.row g n) (idx κ g 0)) ∧
  (∀ hp R κ g n l h, cvt1 hp R κ (.view g n l h) = cvvi hp R g n l h (idx κ g 0)) ∧
  (∀ hp R κ g n, cvt0 hp R κ (.row g n) = cvro hp R g (.row g n) (idx κ g 0)) ∧
  (∀ hp R κ g n l h, cvt0 hp R κ (.view g n l h) = cvvi hp R g n l h (idx κ g 0)) ∧
  (∀ hp R κ g o, cvt hp R κ (.ref g o) = cvre hp R g o (idx κ g 0)) ∧
  (∀ hp R κ g o, cvt1 hp R κ (.ref g o) = cvre hp R g o (idx κ g 0)) ∧
  (∀ hp R κ g o, cvt0 hp R κ (.ref g o) = (idx κ g 0).map (fun j => .ref j o)) ∧
  (∀ hp K κ k r j, hand hp K κ (k :: r) j = hnd hp K κ (hget hp k) j (hand hp K κ r (j + 1))) ∧
  (∀ hp b off, cellsAt hp (.ref b off) = cbox (hget hp b) off) ∧
  (∀ hp g n i off, cellsAt hp (.elt g n i off) = celt (hget hp g) n i off) ∧
  (∀ hp g n, elems hp (.row g n) = elr (hget hp g) n) ∧
  (∀ hp g n lo hi, elems hp (.view g n lo hi) = elv (hget hp g) n lo hi) ∧
  (∀ hp g n, appd hp (.row g n) = elr (hget hp g) n) ∧
  (∀ hp g n lo hi, appd hp (.view g n lo hi) = elv (hget hp g) n lo hi) ∧
  (∀ T t, isBoolT T t = isBo (T t)) ∧
  (∀ (p : Prop) (i : Decidable p) A B s, p → br (@decide p i) A B s = A s) ∧
  (∀ (p : Prop) (i : Decidable p) A B s, ¬ p → br (@decide p i) A B s = B s) ∧
  (∀ (p : Prop) (i : Decidable p) a b K, p → pickv (.bool (@decide p i)) a b K = K a []) ∧
  (∀ (p : Prop) (i : Decidable p) a b K, ¬ p → pickv (.bool (@decide p i)) a b K = K b []) ∧
  (∀ hr k r j, gone hr (k :: r) j = gn k (gone hr r (j + 1)) (hget hr j)) ∧
  (nfc [] = True) ∧
  (∀ x l, nfc (x :: l) = (Ck (nf1 x) ∧ nfc l)) ∧
  (nfx [] = True) ∧
  (∀ (l : List Int) k, nfx (l.map (PV.int k)) = True) ∧
  (∀ l : List ByteArray, nfx (l.map PV.str) = True) ∧
  (∀ T o xs ys K fs sz b z, sbt T o xs ys K (some ⟨.struct fs, sz, b, z⟩) = (Ck ((TE.mk (.struct fs) sz b z).flatS) ∧ sbk o K (fcmp T fs 0 xs ys))) ∧
  (∀ k sz b z k' x y, fcmp1 (some ⟨.int k, sz, b, z⟩) (.int k' x) (.int k' y) = some (decide (x = y))) ∧
  (∀ p q : Prop, p → (p ∧ q) = q) ∧
  (∀ sz xs n i off, n = xs.length → i < n → celt (some (.row sz xs)) n i off = some ((flat (xs.getD i .junk)).drop off)) ∧
  (∀ sz xs n, n = xs.length → elr (some (.row sz xs)) n = some xs) ∧
  (∀ sz xs n lo hi, n = xs.length → elv (some (.row sz xs)) n lo hi = some ((xs.take hi).drop lo)) ∧
  (∀ n : Int, -9223372036854775808 ≤ n → n < 9223372036854775808 → IntKind.i64.wrap n = n) ∧
  (∀ {α : Type} [Inhabited α] (f : α → PV) (l : List α) (i : Nat), i < l.length → (l.map f).getD i .junk = f (l.getD i default)) := by
  refine ⟨?_, ?_, ?_, ?_, ?_, ?_, ?_, ?_, ?_, ?_, ?_, ?_, ?_, ?_, ?_, ?_, ?_, ?_, ?_, ?_, ?_, ?_, ?_, ?_, ?_, ?_, ?_, ?_, ?_, ?_, ?_, ?_, ?_, ?_, ?_, ?_, ?_, ?_, ?_, ?_, ?_, ?_, ?_, ?_, ?_, ?_, ?_, ?_, ?_, ?_, ?_, ?_, ?_, ?_, ?_, ?_, ?_, ?_, ?_, ?_, ?_, ?_, ?_, ?_, ?_, ?_, ?_, ?_, ?_, ?_, ?_, ?_, ?_, ?_, ?_, ?_, ?_, ?_, ?_, ?_, ?_, ?_, ?_, ?_, ?_, ?_, ?_, ?_, ?_, ?_, ?_, ?_, ?_, ?_, ?_, ?_, ?_, ?_, ?_, ?_, ?_, ?_, ?_, ?_, ?_, ?_, ?_, ?_, ?_, ?_, ?_, ?_, ?_, ?_, ?_, ?_, ?_, ?_, ?_, ?_, ?_, ?_, ?_, ?_, ?_, ?_, ?_, ?_, ?_, ?_, ?_, ?_, ?_, ?_, ?_, ?_, ?_, ?_, ?_, ?_, ?_, ?_, ?_, ?_, ?_, ?_, ?_, ?_, ?_, ?_, ?_, ?_, ?_, ?_, ?_, ?_, ?_, ?_, ?_, ?_, ?_, ?_, ?_, ?_, ?_, ?_, ?_, ?_, ?_, ?_, ?_, ?_, ?_, ?_, ?_, ?_, ?_, ?_, ?_, ?_, ?_, ?_, ?_, ?_, ?_, ?_, ?_, ?_, ?_, ?_, ?_, ?_, ?_, ?_, ?_, ?_, ?_, ?_, ?_, ?_, ?_, ?_, ?_, ?_, ?_, ?_, ?_, ?_, ?_, ?_, ?_, ?_, ?_, ?_, ?_, ?_, ?_, ?_, ?_, ?_, ?_, ?_, ?_, ?_, ?_, ?_, ?_, ?_, ?_, ?_, ?_, ?_, ?_, ?_, ?_, ?_, ?_, ?_, ?_, ?_, ?_, ?_, ?_, ?_, ?_, ?_, ?_, ?_, ?_, ?_, ?_, ?_, ?_, ?_, ?_, ?_, ?_, ?_, ?_, ?_, ?_, ?_, ?_, ?_, ?_, ?_, ?_, ?_, ?_, ?_, ?_, ?_, ?_, ?_, ?_, ?_, ?_, ?_, ?_, ?_, ?_, ?_, ?_, ?_, ?_, ?_, ?_, ?_, ?_, ?_, ?_, ?_, ?_, ?_, ?_, ?_, ?_, ?_, ?_, ?_, ?_, ?_, ?_, ?_, ?_, ?_, ?_, ?_, ?_, ?_, ?_, ?_, ?_, ?_, ?_, ?_, ?_, ?_, ?_, ?_, ?_, ?_, ?_, ?_, ?_, ?_, ?_, ?_, ?_, ?_, ?_, ?_, ?_, ?_, ?_, ?_, ?_, ?_, ?_, ?_, ?_, ?_, ?_, ?_, ?_, ?_, ?_, ?_, ?_, ?_, ?_, ?_, ?_, ?_, ?_, ?_, ?_, ?_, ?_, ?_, ?_, ?_, ?_, ?_, ?_, ?_, ?_, ?_, ?_, ?_, ?_, ?_, ?_, ?_, ?_, ?_, ?_, ?_, ?_, ?_, ?_, ?_, ?_, ?_, ?_, ?_, ?_, ?_, ?_, ?_, ?_, ?_, ?_, ?_, ?_, ?_, ?_, ?_, ?_, ?_, ?_, ?_, ?_, ?_, ?_, ?_, ?_, ?_, ?_, ?_, ?_, ?_, ?_, ?_, ?_, ?_, ?_, ?_, ?_, ?_, ?_, ?_, ?_, ?_, ?_, ?_, ?_, ?_, ?_, ?_, ?_, ?_, ?_, ?_, ?_, ?_, ?_, ?_, ?_, ?_, ?_, ?_, ?_, ?_, ?_, ?_, ?_, ?_, ?_, ?_, ?_, ?_, ?_, ?_, ?_, ?_, ?_, ?_, ?_, ?_, ?_, ?_, ?_, ?_, ?_, ?_, ?_, ?_, ?_, ?_, ?_, ?_, ?_, ?_, ?_, ?_, ?_, ?_, ?_, ?_, ?_, ?_, ?_, ?_, ?_, ?_, ?_, ?_, ?_, ?_, ?_, ?_, ?_, ?_, ?_, ?_, ?_, ?_, ?_, ?_, ?_, ?_, ?_, ?_, ?_, ?_, ?_, ?_, ?_, ?_, ?_, ?_, ?_, ?_, ?_, ?_, ?_, ?_, ?_, ?_, ?_, ?_, ?_, ?_, ?_, ?_, ?_, ?_, ?_, ?_, ?_, ?_, ?_, ?_, ?_, ?_, ?_, ?_, ?_, ?_, ?_, ?_, ?_, ?_, ?_, ?_, ?_, ?_, ?_, ?_, ?_, ?_, ?_, ?_, ?_, ?_, ?_, ?_, ?_, ?_, ?_, ?_, ?_, ?_, ?_, ?_, ?_, ?_, ?_, ?_, ?_, ?_, ?_, ?_, ?_, ?_, ?_, ?_, ?_, ?_, ?_, ?_, ?_, ?_, ?_, ?_, ?_, ?_, ?_, ?_, ?_, ?_, ?_, ?_, ?_, ?_, ?_, ?_, ?_, ?_, ?_, ?_, ?_, ?_, ?_, ?_, fun e => eq_true (.inl rfl), fun e => eq_true (.inr rfl), fun l => strP_map _ l rfl, bytesP_map, isByte_map, elOk_int, elOk_str, fun l k x => by simp, fun l x => by simp, fun l k => eq_true (lenA_map _ _ _ fun _ => rfl), fun l => eq_true (lenA_map _ _ _ fun _ => rfl), fun n k x => by simp, fun n x => by simp, fun l k i x => by simp [List.map_set], fun l i x => by simp [List.map_set], fun f l i => List.map_take.symm, fun f l i => List.map_drop.symm, fun T s t r => by simp only [resv]; cases resv T s r <;> rfl, resv_cell, fun f x r => by simp only [cvtl]; cases f x <;> cases cvtl f r <;> rfl, frz_row, frz_row, frz_row, cvt_row, cvt_view, cvt_row, cvt_view, cvt_row, cvt_view, cvt_ref, cvt_ref, fun hp R κ g o => by simp only [cvt0]; cases idx κ g 0 <;> rfl, hand_cons, fun hp b off => by
    simp only [cellsAt]; unfold cbox
    cases hget hp b with
    | none => rfl
    | some c => cases c <;> rfl, fun hp g n i off => by
    simp only [cellsAt]; unfold celt
    cases hget hp g with
    | none => rfl
    | some c => cases c <;> rfl, fun hp g n => by
    simp only [elems]; unfold elr
    cases hget hp g with
    | none => rfl
    | some c => cases c <;> rfl, fun hp g n lo hi => by
    simp only [elems]; unfold elv
    cases hget hp g with
    | none => rfl
    | some c => cases c <;> rfl, fun hp g n => by
    simp only [appd, elems]; unfold elr
    cases hget hp g with
    | none => rfl
    | some c => cases c <;> rfl, fun hp g n lo hi => by
    simp only [appd, elems]; unfold elv
    cases hget hp g with
    | none => rfl
    | some c => cases c <;> rfl, fun T t => by
    unfold isBoolT isBo
    cases T t with
    | none => rfl
    | some e => obtain ⟨ti, _, _, _⟩ := e; cases ti <;> rfl, fun p _ A B s h => by rw [decide_eq_true h]; simp [br], fun p _ A B s h => by rw [decide_eq_false h]; simp [br], fun p _ a b K h => by rw [decide_eq_true h]; rfl, fun p _ a b K h => by rw [decide_eq_false h]; rfl, gone_cons, nfc_nil, nfc_cons, nfx_nil, nfx_int, nfx_str, fun _ _ _ _ _ _ _ _ _ => propext ⟨fun h => ⟨⟨h.1⟩, h.2⟩, fun h => ⟨h.1.go, h.2⟩⟩, fun _ _ _ _ _ _ _ => if_pos rfl, fun p q h => propext ⟨And.right, fun k => ⟨h, k⟩⟩, fun sz xs n i off h k => if_pos ⟨h, k⟩, fun sz xs n h => if_pos h, fun sz xs n lo hi h => if_pos h, fun n h k => by rw [IntKind.wrap_i64]; omega, fun f l i h => by simp [List.getD_eq_getElem?_getD, h]⟩
  all_goals intros
  all_goals first
    | rfl
    | (simp; done)
    | (cases ‹Bool› <;> rfl)
    | exact IntKind.wrap_u8 _
    | exact IntKind.wrap_u32 _
    | exact IntKind.wrap_u64 _
    | (cases ‹List Row› <;> rfl)
    | (cases ‹Bool› <;> simp [br]; done)
    | (cases ‹Bool› <;> simp [pickv]; done)
    | (simp [br, elOk, lka, vop]; done)
    | (simp only [lka]; simp; done)
    | (cases ‹Option Tmp› <;> rfl)
    | (cases ‹Op› <;> rfl)
    | (cases ‹PV› <;> rfl)
    | (simp only [zeroElem, zeroV]; cases TI.agg _ <;> rfl)

theorem br_go {b : Bool} {A B : St → Prop} {s : St} (h1 : b = true → b = true → A s) (h2 : b = false → b = false → B s) : br b A B s := ⟨fun e => h1 e e, fun e => h2 e e⟩
theorem pick_go {b : Bool} {x y : PV} {K : PV → Hp → Prop} (h1 : b = true → b = true → K x []) (h2 : b = false → b = false → K y []) : pickv (.bool b) x y K := by
  cases b
  · exact h2 rfl rfl
  · exact h1 rfl rfl
theorem size_nil (s : ByteArray) : (s = ⟨#[]⟩) = (s.size = 0) := by
  refine propext ⟨fun h => by rw [h]; rfl, fun h => ?_⟩
  exact ByteArray.ext (Array.eq_empty_of_size_eq_zero h)
theorem BB : (∀ (p : Prop) (i : Decidable p), (@decide p i = true) = p) ∧ (∀ (p : Prop) (i : Decidable p), (@decide p i = false) = ¬ p) ∧ (∀ b : Bool, ((!b) = true) = (b = false)) ∧ (∀ b : Bool, ((!b) = false) = (b = true)) ∧
    (∀ a b : Bool, ((a && b) = true) = (a = true ∧ b = true)) ∧ (∀ a b : Bool, ((a && b) = false) = (a = false ∨ b = false)) ∧ (∀ a b : Bool, ((a || b) = true) = (a = true ∨ b = true)) ∧ (∀ a b : Bool, ((a || b) = false) = (a = false ∧ b = false)) ∧
    (∀ a b : Int, (¬ a < b) = (b ≤ a)) ∧ (∀ a b : Int, (¬ a ≤ b) = (b < a)) ∧ (∀ p : Prop, (¬ ¬ p) = p) ∧ ((false = true) = False) ∧ ((true = false) = False) ∧ (∀ a b : Bool, ((a == b) = true) = (a = b)) ∧ (∀ s : ByteArray, (s = ⟨#[]⟩) = (s.size = 0)) ∧ (∀ s : ByteArray, (⟨#[]⟩ = s) = (s.size = 0)) := by
  refine ⟨?_, ?_, ?_, ?_, ?_, ?_, ?_, ?_, ?_, ?_, ?_, ?_, ?_, ?_, ?_, ?_⟩ <;> intros <;> first | exact size_nil _ | exact (propext eq_comm).trans (size_nil _) | (simp; done) | (rename_i a b; cases a <;> cases b <;> simp)

theorem inj_str : ∀ {a b : List ByteArray}, a.map PV.str = b.map PV.str → a = b
  | [], [], _ => rfl
  | [], _ :: _, h => by simp at h
  | _ :: _, [], h => by simp at h
  | x :: a, y :: b, h => by
    simp only [List.map_cons, List.cons.injEq, PV.str.injEq] at h
    rw [h.1, inj_str h.2]
theorem inj_int {k : IntKind} : ∀ {a b : List Int}, a.map (PV.int k) = b.map (PV.int k) → a = b
  | [], [], _ => rfl
  | [], _ :: _, h => by simp at h
  | _ :: _, [], h => by simp at h
  | x :: a, y :: b, h => by
    simp only [List.map_cons, List.cons.injEq, PV.int.injEq] at h
    rw [h.1.2, inj_int h.2]
set_option maxRecDepth 100000 in
theorem LN : (∀ {α : Type}, ([] : List α).length = 0) ∧
  (∀ {α : Type} (x : α) (l : List α), (x :: l).length = l.length + 1) ∧
  (∀ {α : Type} (l m : List α), (l ++ m).length = l.length + m.length) ∧
  (∀ {α β : Type} (f : α → β) (l : List α), (l.map f).length = l.length) ∧
  (∀ {α : Type} (n : Nat) (x : α), (List.replicate n x).length = n) ∧
  (∀ {α : Type} (l : List α) (i : Nat) (x : α), (l.set i x).length = l.length) ∧
  (∀ {α : Type} (n : Nat) (l : List α), (l.take n).length = min n l.length) ∧
  (∀ {α : Type} (n : Nat) (l : List α), (l.drop n).length = l.length - n) ∧
  (∀ (n : Nat), (n : Int).toNat = n) := by
  refine ⟨?_, ?_, ?_, ?_, ?_, ?_, ?_, ?_, ?_⟩
  all_goals intros
  all_goals first
    | rfl
    | (simp; done)
    | exact propext ⟨fun h => inj_str h, fun h => by rw [h]⟩
    | exact propext ⟨fun h => inj_int h, fun h => by rw [h]⟩
set_option maxRecDepth 100000 in
theorem EQ : (∀ a b, (PV.bool a = PV.bool b) = (a = b)) ∧
  (∀ k a b, (PV.int k a = PV.int k b) = (a = b)) ∧
  (∀ a b, (PV.str a = PV.str b) = (a = b)) ∧
  (∀ a b, (PV.raw a = PV.raw b) = (a = b)) ∧
  (∀ a b, (PV.agg a = PV.agg b) = (a = b)) ∧
  (∀ a b, (PV.tup a = PV.tup b) = (a = b)) ∧
  (∀ a b, (PV.far a = PV.far b) = (a = b)) ∧
  (∀ a b, (PV.fel a = PV.fel b) = (a = b)) ∧
  (∀ g n g' n', (PV.row g n = PV.row g' n') = (g = g' ∧ n = n')) ∧
  (∀ g n g' n', (PV.ref g n = PV.ref g' n') = (g = g' ∧ n = n')) ∧
  (∀ z a z' b, (HC.row z a = HC.row z' b) = (z = z' ∧ a = b)) ∧
  (∀ q q' a b, (HC.box q a = HC.box q' b) = (q = q' ∧ a = b)) ∧
  (∀ {α : Type} (a b : α), (some a = some b) = (a = b)) ∧
  (∀ {α : Type} (a : α) (l : List α) (b : α) (m : List α), (a :: l = b :: m) = (a = b ∧ l = m)) ∧
  (∀ {α : Type} (a : α), ((some a : Option α) ≠ none) = True) ∧
  (∀ a b, (List.map PV.str a = List.map PV.str b) = (a = b)) ∧
  (∀ a b k, (List.map (PV.int k) a = List.map (PV.int k) b) = (a = b)) ∧
  (∀ {α : Type} (x : α), (x = x) = True) ∧
  (∀ (p : Prop), (True ∧ p) = p) ∧
  (∀ (p : Prop), (p ∧ True) = p) := by
  refine ⟨?_, ?_, ?_, ?_, ?_, ?_, ?_, ?_, ?_, ?_, ?_, ?_, ?_, ?_, ?_, ?_, ?_, ?_, ?_, ?_⟩
  all_goals intros
  all_goals first
    | rfl
    | (simp; done)
    | exact propext ⟨fun h => inj_str h, fun h => by rw [h]⟩
    | exact propext ⟨fun h => inj_int h, fun h => by rw [h]⟩
set_option maxRecDepth 100000 in
theorem SB : (∀ n' tm' hp' n tm hp, Sub ⟨n', tm', hp'⟩ ⟨n, tm, hp⟩ = (n' = n ∧ TmLe hp' tm' tm ∧ HpLe hp' hp' hp ∧ Low hp' hp)) ∧
  (∀ hp tm, TmLe hp [] tm = True) ∧
  (∀ hp t v r tm, TmLe hp ((t, v) :: r) tm = ((tget tm t = v ∧ clo hp v) ∧ TmLe hp r tm)) ∧
  (∀ hp' hp, HpLe hp' [] hp = True) ∧
  (∀ hp' k q cs r hp, HpLe hp' ((k, .box q cs) :: r) hp = ((hget hp k = some (.box q cs) ∧ clol (clo2 hp') cs) ∧ HpLe hp' r hp)) ∧
  (∀ hp' k sz xs r hp, HpLe hp' ((k, .row sz xs) :: r) hp = ((hget hp k = some (.row sz xs)) ∧ HpLe hp' r hp)) ∧
  (∀ hp' k r hp, HpLe hp' ((k, .dead) :: r) hp = ((hget hp k ≠ none) ∧ HpLe hp' r hp)) ∧
  (∀ hp', Low hp' [] = True) ∧
  (∀ hp' k c r, Low hp' ((k, c) :: r) = ((64 ≤ k ∨ hget hp' k ≠ none) ∧ Low hp' r)) ∧
  (∀ f, clol f [] = True) ∧
  (∀ f x r, clol f (x :: r) = (f x ∧ clol f r)) ∧
  (∀ hp k n, clo hp (.int k n) = True) ∧
  (∀ hp b, clo hp (.bool b) = True) ∧
  (∀ hp b, clo hp (.str b) = True) ∧
  (∀ hp b, clo hp (.raw b) = True) ∧
  (∀ hp b, clo hp (.ifc b) = True) ∧
  (∀ hp, clo hp .nilp = True) ∧
  (∀ hp, clo hp .nils = True) ∧
  (∀ hp, clo hp .junk = True) ∧
  (∀ hp xs, clo hp (.far xs) = True) ∧
  (∀ hp xs, clo hp (.fel xs) = True) ∧
  (∀ hp g n, clo hp (.row g n) = (hget hp g ≠ none)) ∧
  (∀ hp g n l h, clo hp (.view g n l h) = (hget hp g ≠ none)) ∧
  (∀ hp g n, clo hp (.ref g n) = (hget hp g ≠ none)) ∧
  (∀ hp k n, clo2 hp (.int k n) = True) ∧
  (∀ hp b, clo2 hp (.bool b) = True) ∧
  (∀ hp b, clo2 hp (.str b) = True) ∧
  (∀ hp b, clo2 hp (.raw b) = True) ∧
  (∀ hp b, clo2 hp (.ifc b) = True) ∧
  (∀ hp, clo2 hp .nilp = True) ∧
  (∀ hp, clo2 hp .nils = True) ∧
  (∀ hp, clo2 hp .junk = True) ∧
  (∀ hp xs, clo2 hp (.far xs) = True) ∧
  (∀ hp xs, clo2 hp (.fel xs) = True) ∧
  (∀ hp g n, clo2 hp (.row g n) = (hget hp g ≠ none)) ∧
  (∀ hp g n l h, clo2 hp (.view g n l h) = (hget hp g ≠ none)) ∧
  (∀ hp g n, clo2 hp (.ref g n) = (hget hp g ≠ none)) ∧
  (∀ hp k n, clo1 hp (.int k n) = True) ∧
  (∀ hp b, clo1 hp (.bool b) = True) ∧
  (∀ hp b, clo1 hp (.str b) = True) ∧
  (∀ hp b, clo1 hp (.raw b) = True) ∧
  (∀ hp b, clo1 hp (.ifc b) = True) ∧
  (∀ hp, clo1 hp .nilp = True) ∧
  (∀ hp, clo1 hp .nils = True) ∧
  (∀ hp, clo1 hp .junk = True) ∧
  (∀ hp xs, clo1 hp (.far xs) = True) ∧
  (∀ hp xs, clo1 hp (.fel xs) = True) ∧
  (∀ hp g n, clo1 hp (.row g n) = (hget hp g ≠ none)) ∧
  (∀ hp g n l h, clo1 hp (.view g n l h) = (hget hp g ≠ none)) ∧
  (∀ hp g n, clo1 hp (.ref g n) = (hget hp g ≠ none)) ∧
  (∀ hp xs, clo hp (.agg xs) = clol (clo1 hp) xs) ∧
  (∀ hp xs, clo2 hp (.agg xs) = clol (clo1 hp) xs) ∧
  (∀ hp f xs, clo hp (.fn f xs) = clol (clo1 hp) xs) ∧
  (∀ hp xs, clo hp (.tup xs) = clol (clo2 hp) xs) ∧
  (∀ k c r j, tget ((k, c) :: r) j = if j = k then c else tget r j) ∧
  (∀ j, tget [] j = .junk) ∧
  (∀ k c r j, hget ((k, c) :: r) j = if j = k then some c else hget r j) ∧
  (∀ j, hget [] j = none) ∧
  (∀ (p : Prop), (True ∧ p) = p) ∧
  (∀ (p : Prop), (p ∧ True) = p) ∧
  (∀ {α : Type} (x : α), (x = x) = True) ∧
  (∀ (p : Prop), (True ∨ p) = True) ∧
  (∀ (p : Prop), (p ∨ True) = True) ∧
  (∀ {α β : Type} (f : α → β), List.map f [] = []) ∧
  (∀ (a b : Nat), ((a + b : Nat) : Int) = (a : Int) + (b : Int)) ∧
  (((0 : Nat) : Int) = 0) ∧
  (((1 : Nat) : Int) = 1) ∧
  (∀ {α : Type}, ([] : List α).length = 0) ∧
  (∀ {α : Type} (x : α) (l : List α), (x :: l).length = l.length + 1) ∧
  (∀ {α : Type} (l m : List α), (l ++ m).length = l.length + m.length) ∧
  (∀ {α β : Type} (f : α → β) (l : List α), (l.map f).length = l.length) ∧
  (∀ {α : Type} (n : Nat) (x : α), (List.replicate n x).length = n) ∧
  (∀ {α : Type} (l : List α) (i : Nat) (x : α), (l.set i x).length = l.length) ∧
  (∀ {α : Type} (n : Nat) (l : List α), (l.take n).length = min n l.length) ∧
  (∀ {α : Type} (n : Nat) (l : List α), (l.drop n).length = l.length - n) ∧
  (∀ (n : Nat), (n : Int).toNat = n) ∧
  (∀ {α : Type} (l : List α), [] ++ l = l) ∧
  (∀ {α : Type} (x : α) (l m : List α), (x :: l) ++ m = x :: (l ++ m)) := by
  refine ⟨?_, ?_, ?_, ?_, ?_, ?_, ?_, ?_, ?_, ?_, ?_, ?_, ?_, ?_, ?_, ?_, ?_, ?_, ?_, ?_, ?_, ?_, ?_, ?_, ?_, ?_, ?_, ?_, ?_, ?_, ?_, ?_, ?_, ?_, ?_, ?_, ?_, ?_, ?_, ?_, ?_, ?_, ?_, ?_, ?_, ?_, ?_, ?_, ?_, ?_, ?_, ?_, ?_, ?_, ?_, ?_, ?_, ?_, ?_, ?_, ?_, ?_, ?_, ?_, ?_, ?_, ?_, ?_, ?_, ?_, ?_, ?_, ?_, ?_, ?_, ?_, ?_, ?_⟩
  all_goals intros
  all_goals first
    | rfl
    | (simp; done)
    | exact propext ⟨fun h => inj_str h, fun h => by rw [h]⟩
    | exact propext ⟨fun h => inj_int h, fun h => by rw [h]⟩
/-- A goal that is not reckoned yet. -/
structure Wr (p : Prop) : Prop where
  go : p
end Go.Pv
