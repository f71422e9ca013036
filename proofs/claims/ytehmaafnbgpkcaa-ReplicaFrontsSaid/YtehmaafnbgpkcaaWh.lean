/- This text proves a part of what the claim needs: contracts of functions of the program. No condition. -/
import Derived.Test.YtehmaafnbgpkcaaWe
import Derived.Test.YtehmaafnbgpkcaaWf
set_option linter.unusedSimpArgs false
set_option linter.unusedVariables false

/- The plain theory of a history of three nodes: what holds at every moment of it. -/
namespace Go.Proofs.Ytehmaafnbgpkcaa
open Go Go.Vs Go.Proofs

/-- A writer. -/
structure Wr where
  e : Int
  log : List ByteArray

abbrev Su := Int × List ByteArray

def Holds (S : Su) (n : Nd) : Prop := S.1 ≤ n.e ∧ S.2 <+: n.log

structure Inv (f : Fin 3 → Nd) (ws : List Wr) (gs : List Su) : Prop where
  wpos : ∀ w ∈ ws, 1 ≤ w.e
  wlt : ws.Pairwise fun a b => a.e < b.e
  node : ∀ i, 0 ≤ (f i).e ∧ (f i).e ≤ (f i).p ∧ (((f i).e = 0 ∧ (f i).log = []) ∨ ∃ w ∈ ws, w.e = (f i).e ∧ (f i).log <+: w.log)
  lost1 : ∀ i j, (f i).lost = true → (f j).lost = true → i = j
  prom : ∀ w ∈ ws, ∀ i j, (f i).lost = false → (f j).lost = false → (f i).p < w.e → (f j).p < w.e → i = j
  sureW : ∀ S ∈ gs, ∃ w ∈ ws, w.e = S.1 ∧ S.2 <+: w.log
  sureUp : ∀ S ∈ gs, ∀ w ∈ ws, S.1 < w.e → S.2 <+: w.log
  sureN : ∀ S ∈ gs, ∀ i, S.1 < (f i).e → S.2 <+: (f i).log
  hold : ∀ S ∈ gs, ∀ i j, (f i).lost = false → (f j).lost = false → ¬ Holds S (f i) → ¬ Holds S (f j) → i = j

section
variable {f f' : Fin 3 → Nd} {ws : List Wr} {gs : List Su}

theorem Inv.uniq (h : Inv f ws gs) {w w' : Wr} (hw : w ∈ ws) (hw' : w' ∈ ws) (he : w.e = w'.e) : w = w' := by
  obtain ⟨i, hi⟩ := List.getElem?_of_mem hw
  obtain ⟨j, hj⟩ := List.getElem?_of_mem hw'
  obtain ⟨hi1, hi2⟩ := List.getElem?_eq_some_iff.1 hi
  obtain ⟨hj1, hj2⟩ := List.getElem?_eq_some_iff.1 hj
  have hp := List.pairwise_iff_getElem.1 h.wlt
  rcases Nat.lt_trichotomy i j with hij | hij | hij
  · have := hp i j hi1 hj1 hij
    rw [hi2, hj2] at this
    omega
  · subst hij
    rw [← hi2, ← hj2]
  · have := hp j i hj1 hi1 hij
    rw [hi2, hj2] at this
    omega

/-- Promises: nothing but what was promised goes up. -/
theorem Inv.promise (h : Inv f ws gs) (hf : ∀ i, (f' i).e = (f i).e ∧ (f' i).log = (f i).log ∧ (f' i).lost = (f i).lost ∧ (f i).p ≤ (f' i).p) : Inv f' ws gs where
  wpos := h.wpos
  wlt := h.wlt
  node := fun i => by
    obtain ⟨h1, h2, h3, h4⟩ := hf i
    obtain ⟨g1, g2, g3⟩ := h.node i
    rw [h1, h2]
    exact ⟨g1, by omega, g3⟩
  lost1 := fun i j hi hj => h.lost1 i j ((hf i).2.2.1 ▸ hi) ((hf j).2.2.1 ▸ hj)
  prom := fun w hw i j hi hj h1 h2 => h.prom w hw i j ((hf i).2.2.1 ▸ hi) ((hf j).2.2.1 ▸ hj) (by have := (hf i).2.2.2; omega) (by have := (hf j).2.2.2; omega)
  sureW := h.sureW
  sureUp := h.sureUp
  sureN := fun S hS i hi => by
    obtain ⟨h1, h2, h3, h4⟩ := hf i
    rw [h1] at hi
    rw [h2]
    exact h.sureN S hS i hi
  hold := fun S hS i j hi hj h1 h2 => by
    refine h.hold S hS i j ((hf i).2.2.1 ▸ hi) ((hf j).2.2.1 ▸ hj) (fun hh => h1 ?_) (fun hh => h2 ?_)
    · unfold Holds at *
      rw [(hf i).1, (hf i).2.1]
      exact hh
    · unfold Holds at *
      rw [(hf j).1, (hf j).2.1]
      exact hh

def upd3 (f : Fin 3 → Nd) (k : Fin 3) (n : Nd) : Fin 3 → Nd := fun i => if i = k then n else f i

theorem upd3_same {k : Fin 3} {n : Nd} : upd3 f k n k = n := by simp [upd3]
theorem upd3_ne {k i : Fin 3} {n : Nd} (h : i ≠ k) : upd3 f k n i = f i := by simp [upd3, h]

/-- A node that is not lost is given a writer's log. -/
theorem Inv.install (h : Inv f ws gs) {w : Wr} (hw : w ∈ ws) (k : Fin 3) (hl : (f k).lost = false) (hp : (f k).p ≤ w.e) : Inv (upd3 f k (madeN w.e w.log)) ws gs where
  wpos := h.wpos
  wlt := h.wlt
  node := fun i => by
    by_cases hi : i = k
    · subst hi
      rw [upd3_same]
      have := h.wpos w hw
      exact ⟨by show 0 ≤ w.e; omega, Int.le_refl _, .inr ⟨w, hw, rfl, List.prefix_rfl⟩⟩
    · rw [upd3_ne hi]
      exact h.node i
  lost1 := fun i j hi hj => by
    by_cases h1 : i = k
    · subst h1; rw [upd3_same] at hi; simp [madeN] at hi
    · by_cases h2 : j = k
      · subst h2; rw [upd3_same] at hj; simp [madeN] at hj
      · rw [upd3_ne h1] at hi
        rw [upd3_ne h2] at hj
        exact h.lost1 i j hi hj
  prom := fun w' hw' i j hi hj h1 h2 => by
    have low : ∀ i, (upd3 f k (madeN w.e w.log) i).lost = false → (upd3 f k (madeN w.e w.log) i).p < w'.e → (f i).lost = false ∧ (f i).p < w'.e := fun i hi h1 => by
      by_cases hik : i = k
      · subst hik
        rw [upd3_same] at h1
        have h1 : w.e < w'.e := h1
        exact ⟨hl, by omega⟩
      · rw [upd3_ne hik] at hi h1
        exact ⟨hi, h1⟩
    exact h.prom w' hw' i j (low i hi h1).1 (low j hj h2).1 (low i hi h1).2 (low j hj h2).2
  sureW := h.sureW
  sureUp := h.sureUp
  sureN := fun S hS i hi => by
    by_cases hik : i = k
    · subst hik
      rw [upd3_same] at hi ⊢
      exact h.sureUp S hS w hw hi
    · rw [upd3_ne hik] at hi ⊢
      exact h.sureN S hS i hi
  hold := fun S hS i j hi hj h1 h2 => by
    have low : ∀ i, (upd3 f k (madeN w.e w.log) i).lost = false → ¬ Holds S (upd3 f k (madeN w.e w.log) i) → (f i).lost = false ∧ ¬ Holds S (f i) := fun i hi h1 => by
      by_cases hik : i = k
      · subst hik
        refine ⟨hl, fun hh => h1 ?_⟩
        rw [upd3_same]
        obtain ⟨g1, g2⟩ := hh
        have := (h.node i).2.1
        have hle : S.1 ≤ w.e := by omega
        refine ⟨hle, ?_⟩
        show S.2 <+: w.log
        rcases Int.lt_or_eq_of_le hle with hlt | heq
        · exact h.sureUp S hS w hw hlt
        · obtain ⟨w', hw', he', hp'⟩ := h.sureW S hS
          rw [h.uniq hw hw' (by omega)]
          exact hp'
      · rw [upd3_ne hik] at hi h1
        exact ⟨hi, h1⟩
    exact h.hold S hS i j (low i hi h1).1 (low j hj h2).1 (low i hi h1).2 (low j hj h2).2

/-- Of a writer whose epoch is the greatest, any node may be given the log. -/
theorem Inv.heal (h : Inv f ws gs) {w : Wr} (hw : w ∈ ws) (hmax : ∀ w' ∈ ws, w'.e ≤ w.e) (k : Fin 3) : Inv (upd3 f k (madeN w.e w.log)) ws gs where
  wpos := h.wpos
  wlt := h.wlt
  node := fun i => by
    by_cases hi : i = k
    · subst hi
      rw [upd3_same]
      have := h.wpos w hw
      exact ⟨by show 0 ≤ w.e; omega, Int.le_refl _, .inr ⟨w, hw, rfl, List.prefix_rfl⟩⟩
    · rw [upd3_ne hi]
      exact h.node i
  lost1 := fun i j hi hj => by
    by_cases h1 : i = k
    · subst h1; rw [upd3_same] at hi; simp [madeN] at hi
    · by_cases h2 : j = k
      · subst h2; rw [upd3_same] at hj; simp [madeN] at hj
      · rw [upd3_ne h1] at hi
        rw [upd3_ne h2] at hj
        exact h.lost1 i j hi hj
  prom := fun w' hw' i j hi hj h1 h2 => by
    have low : ∀ i, (upd3 f k (madeN w.e w.log) i).lost = false → (upd3 f k (madeN w.e w.log) i).p < w'.e → (f i).lost = false ∧ (f i).p < w'.e := fun i hi h1 => by
      by_cases hik : i = k
      · subst hik
        rw [upd3_same] at h1
        have h1 : w.e < w'.e := h1
        have := hmax w' hw'
        omega
      · rw [upd3_ne hik] at hi h1
        exact ⟨hi, h1⟩
    exact h.prom w' hw' i j (low i hi h1).1 (low j hj h2).1 (low i hi h1).2 (low j hj h2).2
  sureW := h.sureW
  sureUp := h.sureUp
  sureN := fun S hS i hi => by
    by_cases hik : i = k
    · subst hik
      rw [upd3_same] at hi ⊢
      exact h.sureUp S hS w hw hi
    · rw [upd3_ne hik] at hi ⊢
      exact h.sureN S hS i hi
  hold := fun S hS i j hi hj h1 h2 => by
    have low : ∀ i, (upd3 f k (madeN w.e w.log) i).lost = false → ¬ Holds S (upd3 f k (madeN w.e w.log) i) → i ≠ k ∧ (f i).lost = false ∧ ¬ Holds S (f i) := fun i hi h1 => by
      by_cases hik : i = k
      · subst hik
        refine absurd ?_ h1
        rw [upd3_same]
        obtain ⟨w', hw', he', hp'⟩ := h.sureW S hS
        have hle : S.1 ≤ w.e := by have := hmax w' hw'; omega
        refine ⟨hle, ?_⟩
        show S.2 <+: w.log
        rcases Int.lt_or_eq_of_le hle with hlt | heq
        · exact h.sureUp S hS w hw hlt
        · rw [h.uniq hw hw' (by omega)]
          exact hp'
      · rw [upd3_ne hik] at hi h1
        exact ⟨hik, hi, h1⟩
    exact h.hold S hS i j (low i hi h1).2.1 (low j hj h2).2.1 (low i hi h1).2.2 (low j hj h2).2.2

def wiped : Nd := ⟨0, 0, [], true⟩

/-- A node's disk is lost, and no other one. -/
theorem Inv.wipe (h : Inv f ws gs) (k : Fin 3) (hk : ∀ i, i ≠ k → (f i).lost = false) : Inv (upd3 f k wiped) ws gs where
  wpos := h.wpos
  wlt := h.wlt
  node := fun i => by
    by_cases hi : i = k
    · subst hi
      rw [upd3_same]
      exact ⟨Int.le_refl _, Int.le_refl _, .inl ⟨rfl, rfl⟩⟩
    · rw [upd3_ne hi]
      exact h.node i
  lost1 := fun i j hi hj => by
    have low : ∀ i, (upd3 f k wiped i).lost = true → i = k := fun i hi => by
      by_cases hik : i = k
      · exact hik
      · rw [upd3_ne hik, hk i hik] at hi
        simp at hi
    rw [low i hi, low j hj]
  prom := fun w' hw' i j hi hj h1 h2 => by
    have low : ∀ i, (upd3 f k wiped i).lost = false → i ≠ k := fun i hi hik => by
      subst hik
      rw [upd3_same] at hi
      simp [wiped] at hi
    have li := low i hi
    have lj := low j hj
    rw [upd3_ne li] at hi h1
    rw [upd3_ne lj] at hj h2
    exact h.prom w' hw' i j hi hj h1 h2
  sureW := h.sureW
  sureUp := h.sureUp
  sureN := fun S hS i hi => by
    by_cases hik : i = k
    · subst hik
      rw [upd3_same] at hi
      obtain ⟨w, hw, he, _⟩ := h.sureW S hS
      have := h.wpos w hw
      have hi : S.1 < 0 := hi
      omega
    · rw [upd3_ne hik] at hi ⊢
      exact h.sureN S hS i hi
  hold := fun S hS i j hi hj h1 h2 => by
    have low : ∀ i, (upd3 f k wiped i).lost = false → i ≠ k := fun i hi hik => by
      subst hik
      rw [upd3_same] at hi
      simp [wiped] at hi
    have li := low i hi
    have lj := low j hj
    rw [upd3_ne li] at hi h1
    rw [upd3_ne lj] at hj h2
    exact h.hold S hS i j hi hj h1 h2

/-- A writer's log grows. -/
theorem Inv.grow (h : Inv f ws gs) {k : Nat} {w : Wr} (hk : ws[k]? = some w) (line : ByteArray) : Inv f (ws.set k ⟨w.e, w.log ++ [line]⟩) gs := by
  have hkl := (List.getElem?_eq_some_iff.1 hk).1
  have hw : w ∈ ws := List.mem_of_getElem? hk
  have back : ∀ x ∈ ws.set k ⟨w.e, w.log ++ [line]⟩, ∃ y ∈ ws, y.e = x.e ∧ y.log <+: x.log := fun x hx => by
    rcases List.mem_or_eq_of_mem_set hx with hx | rfl
    · exact ⟨x, hx, rfl, List.prefix_rfl⟩
    · exact ⟨w, hw, rfl, List.prefix_append _ _⟩
  have forth : ∀ x ∈ ws, ∃ y ∈ ws.set k ⟨w.e, w.log ++ [line]⟩, y.e = x.e ∧ x.log <+: y.log := fun x hx => by
    obtain ⟨i, hi⟩ := List.getElem?_of_mem hx
    by_cases hik : k = i
    · subst hik
      rw [hk] at hi
      cases hi
      exact ⟨⟨w.e, w.log ++ [line]⟩, List.mem_set hkl _, rfl, List.prefix_append _ _⟩
    · refine ⟨x, List.mem_of_getElem? (i := i) ?_, rfl, List.prefix_rfl⟩
      rw [List.getElem?_set_ne hik]
      exact hi
  exact {
    wpos := fun x hx => by
      obtain ⟨y, hy, he, _⟩ := back x hx
      have := h.wpos y hy
      omega
    wlt := by
      have e : (ws.set k ⟨w.e, w.log ++ [line]⟩).map Wr.e = ws.map Wr.e := by
        rw [List.map_set]
        have : (ws.map Wr.e)[k]? = some w.e := by simp [hk]
        obtain ⟨h1, h2⟩ := List.getElem?_eq_some_iff.1 this
        show (ws.map Wr.e).set k w.e = _
        rw [← h2, List.set_getElem_self]
      have h1 : (ws.map Wr.e).Pairwise (· < ·) := List.pairwise_map.2 h.wlt
      rw [← e] at h1
      exact List.pairwise_map.1 h1
    node := fun i => by
      obtain ⟨h1, h2, h3⟩ := h.node i
      refine ⟨h1, h2, ?_⟩
      rcases h3 with h3 | ⟨x, hx, he, hp⟩
      · exact .inl h3
      · obtain ⟨y, hy, he', hp'⟩ := forth x hx
        exact .inr ⟨y, hy, he'.trans he, hp.trans hp'⟩
    lost1 := h.lost1
    prom := fun x hx i j hi hj h1 h2 => by
      obtain ⟨y, hy, he, _⟩ := back x hx
      exact h.prom y hy i j hi hj (by omega) (by omega)
    sureW := fun S hS => by
      obtain ⟨x, hx, he, hp⟩ := h.sureW S hS
      obtain ⟨y, hy, he', hp'⟩ := forth x hx
      exact ⟨y, hy, he'.trans he, hp.trans hp'⟩
    sureUp := fun S hS x hx hlt => by
      obtain ⟨y, hy, he, hp⟩ := back x hx
      exact (h.sureUp S hS y hy (by omega)).trans hp
    sureN := h.sureN
    hold := h.hold }

/-- A log is sure. -/
theorem Inv.sure (h : Inv f ws gs) {w : Wr} (hw : w ∈ ws) (hmax : ∀ w' ∈ ws, w'.e ≤ w.e)
    (hh : ∀ i j, (f i).lost = false → (f j).lost = false → ¬ Holds (w.e, w.log) (f i) → ¬ Holds (w.e, w.log) (f j) → i = j) : Inv f ws (gs ++ [(w.e, w.log)]) where
  wpos := h.wpos
  wlt := h.wlt
  node := h.node
  lost1 := h.lost1
  prom := h.prom
  sureW := fun S hS => by
    rcases List.mem_append.1 hS with hS | hS
    · exact h.sureW S hS
    · cases List.mem_singleton.1 hS
      exact ⟨w, hw, rfl, List.prefix_rfl⟩
  sureUp := fun S hS x hx hlt => by
    rcases List.mem_append.1 hS with hS | hS
    · exact h.sureUp S hS x hx hlt
    · cases List.mem_singleton.1 hS
      have := hmax x hx
      have hlt : w.e < x.e := hlt
      omega
  sureN := fun S hS i hlt => by
    rcases List.mem_append.1 hS with hS | hS
    · exact h.sureN S hS i hlt
    · cases List.mem_singleton.1 hS
      have hlt : w.e < (f i).e := hlt
      have h1 := h.wpos w hw
      rcases (h.node i).2.2 with ⟨h0, _⟩ | ⟨x, hx, he, _⟩
      · omega
      · have := hmax x hx
        omega
  hold := fun S hS i j hi hj h1 h2 => by
    rcases List.mem_append.1 hS with hS | hS
    · exact h.hold S hS i j hi hj h1 h2
    · cases List.mem_singleton.1 hS
      exact hh i j hi hj h1 h2

/-- A new writer, of a greater epoch. -/
theorem Inv.writer (h : Inv f ws gs) {w : Wr} (hmax : ∀ w' ∈ ws, w'.e < w.e) (hpos : 1 ≤ w.e) (hp : ∀ i j, (f i).lost = false → (f j).lost = false → (f i).p < w.e → (f j).p < w.e → i = j)
    (hs : ∀ S ∈ gs, S.2 <+: w.log) : Inv f (ws ++ [w]) gs where
  wpos := fun x hx => by
    rcases List.mem_append.1 hx with hx | hx
    · exact h.wpos x hx
    · cases List.mem_singleton.1 hx; exact hpos
  wlt := List.pairwise_append.2 ⟨h.wlt, List.pairwise_singleton _ _, fun a ha b hb => by
    cases List.mem_singleton.1 hb
    exact hmax a ha⟩
  node := fun i => by
    obtain ⟨h1, h2, h3⟩ := h.node i
    refine ⟨h1, h2, ?_⟩
    rcases h3 with h3 | ⟨x, hx, he, hpx⟩
    · exact .inl h3
    · exact .inr ⟨x, List.mem_append_left _ hx, he, hpx⟩
  lost1 := h.lost1
  prom := fun x hx i j hi hj h1 h2 => by
    rcases List.mem_append.1 hx with hx | hx
    · exact h.prom x hx i j hi hj h1 h2
    · cases List.mem_singleton.1 hx
      exact hp i j hi hj h1 h2
  sureW := fun S hS => by
    obtain ⟨x, hx, he, hpx⟩ := h.sureW S hS
    exact ⟨x, List.mem_append_left _ hx, he, hpx⟩
  sureUp := fun S hS x hx hlt => by
    rcases List.mem_append.1 hx with hx | hx
    · exact h.sureUp S hS x hx hlt
    · cases List.mem_singleton.1 hx
      exact hs S hS
  sureN := h.sureN
  hold := h.hold

/-- Two logs of the same epoch are fronts of each other. -/
theorem Inv.same_epoch (h : Inv f ws gs) {i j : Fin 3} (he : (f i).e = (f j).e) : (f i).log <+: (f j).log ∨ (f j).log <+: (f i).log := by
  rcases (h.node i).2.2 with ⟨h1, h2⟩ | ⟨w, hw, h1, h2⟩
  · rw [h2]
    exact .inl (List.nil_prefix)
  · rcases (h.node j).2.2 with ⟨g1, g2⟩ | ⟨w', hw', g1, g2⟩
    · rw [g2]
      exact .inr (List.nil_prefix)
    · have := h.uniq hw hw' (by omega)
      subst this
      exact List.prefix_or_prefix_of_prefix h2 g2

/-- The best of two nodes that are not lost has each sure log as a front: of any node that holds it. -/
theorem Inv.best (h : Inv f ws gs) {S : Su} (hS : S ∈ gs) {i j : Fin 3} (hi : Holds S (f i)) (hb : (f i).e < (f j).e ∨ ((f i).e = (f j).e ∧ (f i).log.length ≤ (f j).log.length)) : S.2 <+: (f j).log := by
  obtain ⟨h1, h2⟩ := hi
  rcases hb with hb | ⟨he, hl⟩
  · exact h.sureN S hS j (by omega)
  · rcases h.same_epoch he with hp | hp
    · exact h2.trans hp
    · exact h2.trans (by rw [hp.eq_of_length (by have := hp.length_le; omega)]; exact List.prefix_rfl)
end
end Go.Proofs.Ytehmaafnbgpkcaa

/- One act of a history: what it does to the nodes, the writers and the sure logs; that it keeps what holds. -/
namespace Go.Proofs.Ytehmaafnbgpkcaa
open Go Go.Vs Go.Proofs

def N3.fn (ns : N3) : Fin 3 → Nd
  | 0 => ns.a
  | 1 => ns.b
  | 2 => ns.c

structure Act where
  what : Int
  who : Int
  reach : Int
  line : ByteArray

structure Hist where
  ns : N3
  ws : List Wr
  tried : Int
  sure : List (List ByteArray)

def Hist.start : Hist := ⟨zero3, [], 0, []⟩

/-- A recovery. -/
def Hist.reco (h : Hist) (r : R3) : Hist :=
  if (recoverN r h.ns (h.tried + 1)).2.2 = 0 then
    ⟨(recoverN r h.ns (h.tried + 1)).1, h.ws ++ [⟨h.tried + 1, (recoverN r h.ns (h.tried + 1)).2.1⟩], h.tried + 1, h.sure ++ [(recoverN r h.ns (h.tried + 1)).2.1]⟩
  else ⟨(recoverN r h.ns (h.tried + 1)).1, h.ws, h.tried + 1, h.sure⟩

/-- The loss of a disk. -/
def Hist.lose (h : Hist) (k : Int) : Hist :=
  if (h.ns.get ((k + 1).tmod 3)).lost = false ∧ (h.ns.get ((k + 2).tmod 3)).lost = false then { h with ns := h.ns.set k wiped } else h

/-- A write by a writer. -/
def Hist.wr (h : Hist) (r : R3) (k : Nat) (w : Wr) (line : ByteArray) : Hist :=
  ⟨(writeN r h.ns w.e (w.log ++ [line])).1, h.ws.set k ⟨w.e, w.log ++ [line]⟩, h.tried, if (writeN r h.ns w.e (w.log ++ [line])).2.1 then h.sure ++ [w.log ++ [line]] else h.sure⟩

/-- What holds at every moment: n acts have been. -/
structure Good (h : Hist) (n : Nat) : Prop where
  inv : ∃ gs : List Su, h.sure = gs.map (·.2) ∧ Inv h.ns.fn h.ws gs
  tried0 : 0 ≤ h.tried
  tried : h.tried ≤ n
  wmax : ∀ w ∈ h.ws, w.e ≤ h.tried
  wlen : ∀ w ∈ h.ws, w.log.length ≤ n
  nlen : h.ns.small n
  slen : ∀ s ∈ h.sure, s.length ≤ n
  wn : h.ws.length ≤ n
  sn : h.sure.length ≤ n

theorem Good.start : Good Hist.start 0 where
  inv := ⟨[], rfl, {
    wpos := fun w hw => by simp [Hist.start] at hw
    wlt := List.Pairwise.nil
    node := fun i => by
      have : ∀ i, Hist.start.ns.fn i = Nd.zero := fun i => by
        match i with
        | 0 => rfl
        | 1 => rfl
        | 2 => rfl
      rw [this]
      exact ⟨Int.le_refl _, Int.le_refl _, .inl ⟨rfl, rfl⟩⟩
    lost1 := fun i j hi hj => by
      have : ∀ i, Hist.start.ns.fn i = Nd.zero := fun i => by
        match i with
        | 0 => rfl
        | 1 => rfl
        | 2 => rfl
      rw [this] at hi
      simp [Nd.zero] at hi
    prom := fun w hw => by simp [Hist.start] at hw
    sureW := fun S hS => by simp at hS
    sureUp := fun S hS => by simp at hS
    sureN := fun S hS => by simp at hS
    hold := fun S hS => by simp at hS }⟩
  tried0 := Int.le_refl _
  tried := Int.le_refl _
  wmax := fun w hw => by simp [Hist.start] at hw
  wlen := fun w hw => by simp [Hist.start] at hw
  nlen := ⟨by decide, by decide, by decide⟩
  slen := fun w hw => by simp [Hist.start] at hw
  wn := Nat.le_refl _
  sn := Nat.le_refl _

/-! ### What a call to the nodes does -/

def ansW (ask : Nd → Nd × Int) (n n' : Nd) : Prop := n' = (ask n).1 ∧ (ask n).2 = 0

theorem stepN_what (ask : Nd → Nd × Int) (r i : Int) (n : Nd) (l : List Int) : ((stepN ask r i n l).1 = n ∨ ansW ask n (stepN ask r i n l).1) ∧
    ((stepN ask r i n l).2 = l ∨ ((stepN ask r i n l).2 = l ++ [i] ∧ ansW ask n (stepN ask r i n l).1)) := by
  unfold stepN
  split
  · exact ⟨.inl rfl, .inl rfl⟩
  · split
    · exact ⟨.inl rfl, .inl rfl⟩
    · rename_i h
      have h : (ask n).2 = 0 := by simpa using h
      refine ⟨.inr ⟨rfl, h⟩, ?_⟩
      show (if r = 0 then l ++ [i] else l) = l ∨ _
      split
      · exact .inr ⟨rfl, rfl, h⟩
      · exact .inl rfl

/-- Which node a number means. -/
def ix (i : Int) : Fin 3 := if i = 0 then 0 else if i = 1 then 1 else 2

theorem callN_what (ask : Nd → Nd × Int) (r : R3) (ns : N3) : (∀ i, (callN ask r ns).1.fn i = ns.fn i ∨ ansW ask (ns.fn i) ((callN ask r ns).1.fn i)) ∧
    ∀ j ∈ (callN ask r ns).2, ansW ask (ns.fn (ix j)) ((callN ask r ns).1.fn (ix j)) := by
  simp only [callN, callK_3]
  have ha := stepN_what ask r.a 0 ns.a []
  have hb := stepN_what ask r.b 1 ns.b (stepN ask r.a 0 ns.a []).2
  have hc := stepN_what ask r.c 2 ns.c (stepN ask r.b 1 ns.b (stepN ask r.a 0 ns.a []).2).2
  refine ⟨fun i => ?_, fun j hj => ?_⟩
  · match i with
    | 0 => exact ha.1
    | 1 => exact hb.1
    | 2 => exact hc.1
  · have h1 : ∀ j ∈ (stepN ask r.a 0 ns.a []).2, j = 0 ∧ ansW ask ns.a (stepN ask r.a 0 ns.a []).1 := fun j hj => by
      rcases ha.2 with h | ⟨h, h'⟩
      · rw [h] at hj; simp at hj
      · rw [h] at hj
        exact ⟨by simpa using hj, h'⟩
    have h2 : ∀ j ∈ (stepN ask r.b 1 ns.b (stepN ask r.a 0 ns.a []).2).2, j ∈ (stepN ask r.a 0 ns.a []).2 ∨ (j = 1 ∧ ansW ask ns.b (stepN ask r.b 1 ns.b (stepN ask r.a 0 ns.a []).2).1) := fun j hj => by
      rcases hb.2 with h | ⟨h, h'⟩
      · rw [h] at hj; exact .inl hj
      · rw [h] at hj
        rcases List.mem_append.1 hj with hj | hj
        · exact .inl hj
        · exact .inr ⟨by simpa using hj, h'⟩
    have h3 : j ∈ (stepN ask r.b 1 ns.b (stepN ask r.a 0 ns.a []).2).2 ∨ (j = 2 ∧ ansW ask ns.c (stepN ask r.c 2 ns.c (stepN ask r.b 1 ns.b (stepN ask r.a 0 ns.a []).2).2).1) := by
      rcases hc.2 with h | ⟨h, h'⟩
      · rw [h] at hj; exact .inl hj
      · rw [h] at hj
        rcases List.mem_append.1 hj with hj | hj
        · exact .inl hj
        · exact .inr ⟨by simpa using hj, h'⟩
    rcases h3 with h3 | ⟨rfl, h3⟩
    · rcases h2 j h3 with h2 | ⟨rfl, h2⟩
      · obtain ⟨rfl, h1⟩ := h1 j h2
        exact h1
      · exact h2
    · exact h3

theorem promise_what {n n' : Nd} {e : Int} (h : ansW (promiseN · e) n n') : n.lost = false ∧ n.p < e ∧ n' = ⟨e, n.e, n.log, false⟩ := by
  obtain ⟨h1, h2⟩ := h
  have h2 : (promiseN n e).2 = 0 := h2
  have h1 : n' = (promiseN n e).1 := h1
  unfold promiseN at h1 h2
  split at h2
  · simp at h2
  · rename_i g1
    split at h2
    · simp at h2
    · rename_i g2
      split at h2
      · simp at h2
      · rename_i g3
        rw [if_neg g1, if_neg g2, if_neg g3] at h1
        exact ⟨by simpa using g2, by omega, h1⟩

theorem install_what {n n' : Nd} {e : Int} {m : List ByteArray} (h : ansW (installN · e m) n n') : n.lost = false ∧ n.p ≤ e ∧ n' = madeN e m := by
  obtain ⟨h1, h2⟩ := h
  have h2 : (installN n e m).2 = 0 := h2
  have h1 : n' = (installN n e m).1 := h1
  unfold installN at h1 h2
  split at h2
  · rename_i g
    exact absurd h2 g
  · rename_i g1
    split at h2
    · simp at h2
    · rename_i g2
      split at h2
      · simp at h2
      · rename_i g3
        rw [if_neg g1, if_neg g2, if_neg g3] at h1
        exact ⟨by simpa using g2, by omega, h1⟩

theorem set_fn (ns : N3) (i : Int) (n : Nd) : (ns.set i n).fn = upd3 ns.fn (ix i) n := by
  funext j
  unfold N3.set ix upd3
  split
  · match j with
    | 0 => rfl
    | 1 => rfl
    | 2 => rfl
  · split
    · match j with
      | 0 => rfl
      | 1 => rfl
      | 2 => rfl
    · match j with
      | 0 => rfl
      | 1 => rfl
      | 2 => rfl

theorem get_fn (ns : N3) (i : Int) : ns.get i = ns.fn (ix i) := by
  unfold N3.get ix
  split
  · rfl
  · split <;> rfl

/-- Two different ones of three: at most one more. -/
theorem third {P : Fin 3 → Prop} {i j : Fin 3} (hij : i ≠ j) (hi : ¬ P i) (hj : ¬ P j) : ∀ a b, P a → P b → a = b := by
  intro a b ha hb
  have h1 : a ≠ i := fun e => hi (e ▸ ha)
  have h2 : a ≠ j := fun e => hj (e ▸ ha)
  have h3 : b ≠ i := fun e => hi (e ▸ hb)
  have h4 : b ≠ j := fun e => hj (e ▸ hb)
  omega

theorem two_of {ask : Nd → Nd × Int} {r : R3} {ns : N3} (h : ¬ (callN ask r ns).2.length < 2) : ∃ i ∈ (callN ask r ns).2, ∃ j ∈ (callN ask r ns).2, ix i ≠ ix j := by
  have hj := callN_cases ask r ns
  generalize (callN ask r ns).2 = l at h hj
  rcases hj with rfl | rfl | rfl | rfl | rfl | rfl | rfl | rfl
  all_goals first
    | (exfalso; simp at h; done)
    | skip
  · exact ⟨0, by simp, 1, by simp, by decide⟩
  · exact ⟨0, by simp, 2, by simp, by decide⟩
  · exact ⟨1, by simp, 2, by simp, by decide⟩
  · exact ⟨0, by simp, 1, by simp, by decide⟩

/-! ### The best of those who joined -/

theorem betterN_spec (n m : Nd) : betterN n m = true ↔ (m.e < n.e ∨ (m.e = n.e ∧ m.log.length < n.log.length)) := by
  unfold betterN
  split
  · simp only [decide_eq_true_eq]
    omega
  · simp only [decide_eq_true_eq]
    omega

def atMost (n m : Nd) : Prop := n.e < m.e ∨ (n.e = m.e ∧ n.log.length ≤ m.log.length)

theorem atMost.trans {a b c : Nd} (h1 : atMost a b) (h2 : atMost b c) : atMost a c := by
  unfold atMost at *
  omega

theorem best_fold (ns : N3) : ∀ (l : List Int) (x : Nd), atMost x (l.foldl (fun best j => if betterN (ns.get j) best then ns.get j else best) x) ∧
    (∀ j ∈ l, atMost (ns.get j) (l.foldl (fun best j => if betterN (ns.get j) best then ns.get j else best) x)) ∧
    (l.foldl (fun best j => if betterN (ns.get j) best then ns.get j else best) x = x ∨ ∃ j ∈ l, l.foldl (fun best j => if betterN (ns.get j) best then ns.get j else best) x = ns.get j)
  | [], x => ⟨.inr ⟨rfl, Nat.le_refl _⟩, fun j hj => by simp at hj, .inl rfl⟩
  | i :: l, x => by
    rw [List.foldl_cons]
    have hx : atMost x (if betterN (ns.get i) x then ns.get i else x) ∧ atMost (ns.get i) (if betterN (ns.get i) x then ns.get i else x) := by
      split
      · rename_i h
        rw [betterN_spec] at h
        unfold atMost
        omega
      · rename_i h
        rw [betterN_spec] at h
        unfold atMost
        omega
    obtain ⟨h1, h2, h3⟩ := best_fold ns l (if betterN (ns.get i) x then ns.get i else x)
    refine ⟨hx.1.trans h1, fun j hj => ?_, ?_⟩
    · rcases List.mem_cons.1 hj with rfl | hj
      · exact hx.2.trans h1
      · exact h2 j hj
    · rcases h3 with h3 | ⟨j, hj, h3⟩
      · rw [h3]
        split
        · exact .inr ⟨i, List.mem_cons_self, rfl⟩
        · exact .inl rfl
      · exact .inr ⟨j, List.mem_cons_of_mem _ hj, h3⟩

theorem best_of (ns : N3) {l : List Int} (hl : l ≠ []) : (∀ j ∈ l, atMost (ns.get j) (bestN ns l)) ∧ ∃ j ∈ l, bestN ns l = ns.get j := by
  cases l with
  | nil => exact absurd rfl hl
  | cons i l =>
    obtain ⟨h1, h2, h3⟩ := best_fold ns l (ns.get i)
    refine ⟨fun j hj => ?_, ?_⟩
    · rcases List.mem_cons.1 hj with rfl | hj
      · exact h1
      · exact h2 j hj
    · rcases h3 with h3 | ⟨j, hj, h3⟩
      · exact ⟨i, List.mem_cons_self, h3⟩
      · exact ⟨j, List.mem_cons_of_mem _ hj, h3⟩
end Go.Proofs.Ytehmaafnbgpkcaa

/- Each act keeps what holds. -/
namespace Go.Proofs.Ytehmaafnbgpkcaa
open Go Go.Vs Go.Proofs

theorem small_fn {ns : N3} {m : Nat} : ns.small m ↔ ∀ i, (ns.fn i).log.length ≤ m :=
  ⟨fun h i => match i with
    | 0 => h.1
    | 1 => h.2.1
    | 2 => h.2.2, fun h => ⟨h 0, h 1, h 2⟩⟩

/-- What the promises leave. -/
theorem promised {r : R3} {ns : N3} {e : Int} (i : Fin 3) : ((callN (promiseN · e) r ns).1.fn i).e = (ns.fn i).e ∧ ((callN (promiseN · e) r ns).1.fn i).log = (ns.fn i).log ∧
    ((callN (promiseN · e) r ns).1.fn i).lost = (ns.fn i).lost ∧ (ns.fn i).p ≤ ((callN (promiseN · e) r ns).1.fn i).p := by
  rcases (callN_what (promiseN · e) r ns).1 i with h | h
  · rw [h]
    exact ⟨rfl, rfl, rfl, Int.le_refl _⟩
  · obtain ⟨h1, h2, h3⟩ := promise_what h
    rw [h3, h1]
    exact ⟨rfl, rfl, rfl, by show (ns.fn i).p ≤ e; omega⟩

/-- Installed on one after the other. -/
theorem Inv.installs {ws : List Wr} {gs : List Su} {w : Wr} (hw : w ∈ ws) : ∀ (l : List Int) (ns : N3), Inv ns.fn ws gs → (∀ j ∈ l, (ns.fn (ix j)).lost = false ∧ (ns.fn (ix j)).p ≤ w.e) →
    Inv (l.foldl (fun n i => n.set i (madeN w.e w.log)) ns).fn ws gs ∧ (∀ j ∈ l, (l.foldl (fun n i => n.set i (madeN w.e w.log)) ns).fn (ix j) = madeN w.e w.log)
  | [], ns, h, _ => ⟨h, fun j hj => by simp at hj⟩
  | i :: l, ns, h, hl => by
    rw [List.foldl_cons]
    obtain ⟨h1, h2⟩ := hl i List.mem_cons_self
    have hi := h.install hw (ix i) h1 h2
    rw [← set_fn] at hi
    have made : ∀ j, (ns.set i (madeN w.e w.log)).fn j = madeN w.e w.log ∨ (ns.set i (madeN w.e w.log)).fn j = ns.fn j := fun j => by
      rw [set_fn]
      by_cases hj : j = ix i
      · subst hj
        exact .inl upd3_same
      · exact .inr (upd3_ne hj)
    obtain ⟨g1, g2⟩ := Inv.installs hw l (ns.set i (madeN w.e w.log)) hi fun j hj => by
      rcases made (ix j) with e | e
      · rw [e]
        exact ⟨rfl, Int.le_refl _⟩
      · rw [e]
        exact hl j (List.mem_cons_of_mem _ hj)
    refine ⟨g1, fun j hj => ?_⟩
    rcases List.mem_cons.1 hj with rfl | hj
    · have keep : ∀ (l : List Int) (ns : N3), ns.fn (ix j) = madeN w.e w.log → (l.foldl (fun n i => n.set i (madeN w.e w.log)) ns).fn (ix j) = madeN w.e w.log := by
        intro l
        induction l with
        | nil => exact fun ns h => h
        | cons i l ih =>
          intro ns h
          rw [List.foldl_cons]
          refine ih _ ?_
          rw [set_fn]
          by_cases hji : ix j = ix i
          · rw [hji]; exact upd3_same
          · rw [upd3_ne hji]; exact h
      refine keep l _ ?_
      rw [set_fn]
      exact upd3_same
    · exact g2 j hj

/-- A recovery: what it says. -/
theorem reco_cases (h : Hist) (r : R3) (h0 : 0 ≤ h.tried) :
    ((recoverN r h.ns (h.tried + 1)).2.2 = 18 ∧ (recoverN r h.ns (h.tried + 1)).2.1 = [] ∧ (recoverN r h.ns (h.tried + 1)).1 = (callN (promiseN · (h.tried + 1)) r h.ns).1) ∨
    ((recoverN r h.ns (h.tried + 1)).2.2 = 0 ∧ ¬ (callN (promiseN · (h.tried + 1)) r h.ns).2.length < 2 ∧
      (recoverN r h.ns (h.tried + 1)).2.1 = (bestN (callN (promiseN · (h.tried + 1)) r h.ns).1 (callN (promiseN · (h.tried + 1)) r h.ns).2).log ∧
      (recoverN r h.ns (h.tried + 1)).1 = (callN (promiseN · (h.tried + 1)) r h.ns).2.foldl (fun m i => m.set i (madeN (h.tried + 1) (bestN (callN (promiseN · (h.tried + 1)) r h.ns).1 (callN (promiseN · (h.tried + 1)) r h.ns).2).log)) (callN (promiseN · (h.tried + 1)) r h.ns).1) := by
  unfold recoverN
  rw [if_neg (by omega)]
  split
  · exact .inl ⟨rfl, rfl, rfl⟩
  · rename_i hl
    exact .inr ⟨rfl, hl, rfl, rfl⟩

/-- Each sure log is a front of what a recovery finds. -/
theorem reco_sure {h : Hist} {n : Nat} (hg : Good h n) (r : R3) (ho : (recoverN r h.ns (h.tried + 1)).2.2 = 0) : ∀ s ∈ h.sure, s <+: (recoverN r h.ns (h.tried + 1)).2.1 := by
  obtain ⟨gs, hs, hi⟩ := hg.inv
  rcases reco_cases h r hg.tried0 with ⟨h1, _⟩ | ⟨_, h2, h3, _⟩
  · rw [h1] at ho; simp at ho
  · rw [h3]
    intro s hss
    rw [hs] at hss
    obtain ⟨S, hS, rfl⟩ := List.mem_map.1 hss
    have hp := hi.promise (f' := (callN (promiseN · (h.tried + 1)) r h.ns).1.fn) fun i => promised i
    have hw := (callN_what (promiseN · (h.tried + 1)) r h.ns).2
    obtain ⟨a, ha, b, hb, hab⟩ := two_of h2
    generalize callN (promiseN · (h.tried + 1)) r h.ns = s at h2 hp hw ha hb ⊢
    have nl : ∀ j ∈ s.2, (s.1.fn (ix j)).lost = false := fun j hj => by
      obtain ⟨_, _, e⟩ := promise_what (hw j hj)
      rw [e]
    obtain ⟨hb1, j0, hj0, hb2⟩ := best_of s.1 (l := s.2) (fun e => by rw [e] at ha; simp at ha)
    have : ∃ j ∈ s.2, Holds S (s.1.fn (ix j)) := by
      by_cases h1 : Holds S (s.1.fn (ix a))
      · exact ⟨a, ha, h1⟩
      · by_cases h2 : Holds S (s.1.fn (ix b))
        · exact ⟨b, hb, h2⟩
        · exact absurd (hp.hold S hS _ _ (nl a ha) (nl b hb) h1 h2) hab
    obtain ⟨j, hj, hh⟩ := this
    have hle := hb1 j hj
    rw [hb2] at hle ⊢
    rw [get_fn, get_fn] at hle
    rw [get_fn]
    exact hp.best hS hh hle

theorem Good.reco {h : Hist} {n : Nat} (hg : Good h n) (r : R3) : Good (h.reco r) (n + 1) := by
  obtain ⟨gs, hs, hi⟩ := hg.inv
  have ht := hg.tried
  have ht0 := hg.tried0
  have hsure := fun ho => reco_sure hg r ho
  have hp := hi.promise (f' := (callN (promiseN · (h.tried + 1)) r h.ns).1.fn) fun i => promised i
  have hsm := recoverN_small r h.ns (h.tried + 1) n hg.nlen
  rcases reco_cases h r hg.tried0 with ⟨h1, h2, h3⟩ | ⟨h1, h2, h3, h4⟩
  · have e : h.reco r = ⟨(recoverN r h.ns (h.tried + 1)).1, h.ws, h.tried + 1, h.sure⟩ := by
      unfold Hist.reco
      rw [if_neg (by rw [h1]; simp)]
    rw [e]
    exact {
      inv := ⟨gs, hs, by show Inv (recoverN r h.ns (h.tried + 1)).1.fn _ _; rw [h3]; exact hp⟩
      tried0 := by show 0 ≤ h.tried + 1; omega
      tried := by show h.tried + 1 ≤ ((n + 1 : Nat) : Int); omega
      wmax := fun w hw => by have := hg.wmax w hw; show w.e ≤ h.tried + 1; omega
      wlen := fun w hw => Nat.le_succ_of_le (hg.wlen w hw)
      nlen := ⟨Nat.le_succ_of_le hsm.1.1, Nat.le_succ_of_le hsm.1.2.1, Nat.le_succ_of_le hsm.1.2.2⟩
      slen := fun s hs => Nat.le_succ_of_le (hg.slen s hs)
      wn := Nat.le_succ_of_le hg.wn
      sn := Nat.le_succ_of_le hg.sn }
  · have e : h.reco r = ⟨(recoverN r h.ns (h.tried + 1)).1, h.ws ++ [⟨h.tried + 1, (recoverN r h.ns (h.tried + 1)).2.1⟩], h.tried + 1, h.sure ++ [(recoverN r h.ns (h.tried + 1)).2.1]⟩ := by
      unfold Hist.reco
      rw [if_pos h1]
    rw [e]
    have hsu := hsure h1
    have hw := (callN_what (promiseN · (h.tried + 1)) r h.ns).2
    obtain ⟨a, ha, b, hb, hab⟩ := two_of h2
    have hlog : (recoverN r h.ns (h.tried + 1)).2.1.length ≤ n := hsm.2
    have hinv : Inv (recoverN r h.ns (h.tried + 1)).1.fn (h.ws ++ [⟨h.tried + 1, (recoverN r h.ns (h.tried + 1)).2.1⟩]) (gs ++ [(h.tried + 1, (recoverN r h.ns (h.tried + 1)).2.1)]) := by
      rw [h4, ← h3]
      generalize (recoverN r h.ns (h.tried + 1)).2.1 = lg at hsu ⊢
      generalize callN (promiseN · (h.tried + 1)) r h.ns = s at h2 hp hw ha hb ⊢
      have nl : ∀ j ∈ s.2, (s.1.fn (ix j)).lost = false ∧ (s.1.fn (ix j)).p = h.tried + 1 := fun j hj => by
        obtain ⟨_, _, e⟩ := promise_what (hw j hj)
        rw [e]
        exact ⟨rfl, rfl⟩
      have hwr := hp.writer (w := ⟨h.tried + 1, lg⟩) (fun w' hw' => by have := hg.wmax w' hw'; show w'.e < h.tried + 1; omega) (by show 1 ≤ h.tried + 1; omega)
        (fun i j hi' hj' h1 h2 => third (P := fun i => (s.1.fn i).p < h.tried + 1) hab (by rw [(nl a ha).2]; omega) (by rw [(nl b hb).2]; omega) i j h1 h2)
        (fun S hS => hsu S.2 (by rw [hs]; exact List.mem_map.2 ⟨S, hS, rfl⟩))
      obtain ⟨g1, g2⟩ := Inv.installs (w := ⟨h.tried + 1, lg⟩) (by simp) s.2 s.1 hwr fun j hj => ⟨(nl j hj).1, by rw [(nl j hj).2]; exact Int.le_refl _⟩
      refine g1.sure (w := ⟨h.tried + 1, lg⟩) (by simp) (fun w' hw' => ?_) (fun i j _ _ k1 k2 => ?_)
      · rcases List.mem_append.1 hw' with hw' | hw'
        · have := hg.wmax w' hw'
          show w'.e ≤ h.tried + 1
          omega
        · cases List.mem_singleton.1 hw'
          exact Int.le_refl _
      · refine third (P := fun i => ¬ Holds (h.tried + 1, lg) ((s.2.foldl (fun n i => n.set i (madeN (h.tried + 1) lg)) s.1).fn i)) hab (fun k => k ?_) (fun k => k ?_) i j k1 k2
        · rw [g2 a ha]
          exact ⟨Int.le_refl _, List.prefix_rfl⟩
        · rw [g2 b hb]
          exact ⟨Int.le_refl _, List.prefix_rfl⟩
    exact {
      inv := ⟨_, by show h.sure ++ _ = _; rw [hs]; simp, hinv⟩
      tried0 := by show 0 ≤ h.tried + 1; omega
      tried := by show h.tried + 1 ≤ ((n + 1 : Nat) : Int); omega
      wmax := fun w hw => by
        rcases List.mem_append.1 hw with hw | hw
        · have := hg.wmax w hw; show w.e ≤ h.tried + 1; omega
        · cases List.mem_singleton.1 hw; exact Int.le_refl _
      wlen := fun w hw => by
        rcases List.mem_append.1 hw with hw | hw
        · exact Nat.le_succ_of_le (hg.wlen w hw)
        · cases List.mem_singleton.1 hw; exact Nat.le_succ_of_le hlog
      nlen := ⟨Nat.le_succ_of_le hsm.1.1, Nat.le_succ_of_le hsm.1.2.1, Nat.le_succ_of_le hsm.1.2.2⟩
      slen := fun s hs => by
        rcases List.mem_append.1 hs with hs | hs
        · exact Nat.le_succ_of_le (hg.slen s hs)
        · cases List.mem_singleton.1 hs; exact Nat.le_succ_of_le hlog
      wn := by have := hg.wn; show (h.ws ++ _).length ≤ _; simp; omega
      sn := by have := hg.sn; show (h.sure ++ _).length ≤ _; simp; omega }

theorem Good.lose {h : Hist} {n : Nat} (hg : Good h n) (k : Int) (hk : k = 0 ∨ k = 1 ∨ k = 2) : Good (h.lose k) (n + 1) := by
  have up : Good h (n + 1) := { hg with
    tried := by have := hg.tried; omega
    wlen := fun w hw => Nat.le_succ_of_le (hg.wlen w hw)
    nlen := ⟨Nat.le_succ_of_le hg.nlen.1, Nat.le_succ_of_le hg.nlen.2.1, Nat.le_succ_of_le hg.nlen.2.2⟩
    slen := fun s hs => Nat.le_succ_of_le (hg.slen s hs)
    wn := Nat.le_succ_of_le hg.wn
    sn := Nat.le_succ_of_le hg.sn }
  unfold Hist.lose
  split
  · rename_i hl
    obtain ⟨gs, hs, hi⟩ := up.inv
    refine { up with inv := ⟨gs, hs, ?_⟩, nlen := ?_ }
    · show Inv (h.ns.set k wiped).fn h.ws gs
      rw [set_fn]
      refine hi.wipe (ix k) fun i hik => ?_
      obtain ⟨l1, l2⟩ := hl
      rw [get_fn] at l1 l2
      rcases hk with rfl | rfl | rfl
      · match i with
        | 0 => exact absurd rfl hik
        | 1 => exact l1
        | 2 => exact l2
      · match i with
        | 0 => exact l2
        | 1 => exact absurd rfl hik
        | 2 => exact l1
      · match i with
        | 0 => exact l1
        | 1 => exact l2
        | 2 => exact absurd rfl hik
    · obtain ⟨n1, n2, n3⟩ := up.nlen
      show (h.ns.set k wiped).small (n + 1)
      rcases hk with rfl | rfl | rfl
      · exact ⟨Nat.zero_le _, n2, n3⟩
      · exact ⟨n1, Nat.zero_le _, n3⟩
      · exact ⟨n1, n2, Nat.zero_le _⟩
  · exact up
end Go.Proofs.Ytehmaafnbgpkcaa

/- A write keeps what holds; what a history's acts are. -/
namespace Go.Proofs.Ytehmaafnbgpkcaa
open Go Go.Vs Go.Proofs

theorem upd3_self {f : Fin 3 → Nd} {k : Fin 3} : upd3 f k (f k) = f := by
  funext i
  unfold upd3
  split
  · rename_i h; rw [h]
  · rfl

theorem Inv.installF {f f' : Fin 3 → Nd} {ws : List Wr} {gs : List Su} {w : Wr} (h : Inv f ws gs) (hw : w ∈ ws) (hf : ∀ i, f' i = f i ∨ ((f i).lost = false ∧ (f i).p ≤ w.e ∧ f' i = madeN w.e w.log)) : Inv f' ws gs := by
  have one : ∀ (g : Fin 3 → Nd) (k : Fin 3), Inv g ws gs → g k = f k → Inv (upd3 g k (f' k)) ws gs := fun g k hg hk => by
    rcases hf k with e | ⟨h1, h2, e⟩
    · rw [e, ← hk, upd3_self]
      exact hg
    · rw [e]
      exact hg.install hw k (by rw [hk]; exact h1) (by rw [hk]; exact h2)
  have h0 := one f 0 h rfl
  have h1 := one _ 1 h0 (upd3_ne (by decide))
  have h2 := one _ 2 h1 (by rw [upd3_ne (by decide), upd3_ne (by decide)])
  have e : upd3 (upd3 (upd3 f 0 (f' 0)) 1 (f' 1)) 2 (f' 2) = f' := by
    funext i
    match i with
    | 0 => rfl
    | 1 => rfl
    | 2 => rfl
  rw [e] at h2
  exact h2

theorem write_bound {e : Int} {m : List ByteArray} (h1 : 1 ≤ e) (h2 : m.length ≤ 400) : boundN e m = 0 := by
  unfold boundN
  rw [if_neg (by omega), if_neg (by omega)]

theorem Good.wr {h : Hist} {n : Nat} (hg : Good h n) (hn : n < 400) (r : R3) {k : Nat} {w : Wr} (hk : h.ws[k]? = some w) (line : ByteArray) : Good (h.wr r k w line) (n + 1) := by
  obtain ⟨gs, hs, hi⟩ := hg.inv
  have hw : w ∈ h.ws := List.mem_of_getElem? hk
  have hkl := (List.getElem?_eq_some_iff.1 hk).1
  have hpos := hi.wpos w hw
  have hml : (w.log ++ [line]).length ≤ n + 1 := by
    have := hg.wlen w hw
    simp
    exact this
  have hb : boundN w.e (w.log ++ [line]) = 0 := write_bound hpos (by omega)
  have hgr := hi.grow hk line
  have hw' : (⟨w.e, w.log ++ [line]⟩ : Wr) ∈ h.ws.set k ⟨w.e, w.log ++ [line]⟩ := List.mem_set hkl _
  have what := callN_what (installN · w.e (w.log ++ [line])) r h.ns
  have hin : Inv (callN (installN · w.e (w.log ++ [line])) r h.ns).1.fn (h.ws.set k ⟨w.e, w.log ++ [line]⟩) gs := hgr.installF hw' fun i => by
    rcases what.1 i with e | e
    · exact .inl e
    · exact .inr (install_what e)
  have hsm : (callN (installN · w.e (w.log ++ [line])) r h.ns).1.small (n + 1) := callN_small (fun x _ => Nat.le_trans (installN_len x _ _) hml) r
    ⟨Nat.le_succ_of_le hg.nlen.1, Nat.le_succ_of_le hg.nlen.2.1, Nat.le_succ_of_le hg.nlen.2.2⟩
  have back : ∀ x ∈ h.ws.set k ⟨w.e, w.log ++ [line]⟩, ∃ y ∈ h.ws, y.e = x.e := fun x hx => by
    rcases List.mem_or_eq_of_mem_set hx with hx | rfl
    · exact ⟨x, hx, rfl⟩
    · exact ⟨w, hw, rfl⟩
  have wmax : ∀ x ∈ h.ws.set k ⟨w.e, w.log ++ [line]⟩, x.e ≤ h.tried := fun x hx => by
    obtain ⟨y, hy, e⟩ := back x hx
    have := hg.wmax y hy
    omega
  have wlen : ∀ x ∈ h.ws.set k ⟨w.e, w.log ++ [line]⟩, x.log.length ≤ n + 1 := fun x hx => by
    rcases List.mem_or_eq_of_mem_set hx with hx | rfl
    · exact Nat.le_succ_of_le (hg.wlen x hx)
    · exact hml
  have tried : h.tried ≤ ((n + 1 : Nat) : Int) := by have := hg.tried; omega
  have slen : ∀ s ∈ h.sure, s.length ≤ n + 1 := fun s hs => Nat.le_succ_of_le (hg.slen s hs)
  by_cases hc : (2 : Int) ≤ (callN (installN · w.e (w.log ++ [line])) r h.ns).2.length
  · have e : writeN r h.ns w.e (w.log ++ [line]) = (if 0 ≤ lostN h.ns ∧ arrivesN (r.get (lostN h.ns)) = true then (callN (installN · w.e (w.log ++ [line])) r h.ns).1.set (lostN h.ns) (madeN w.e (w.log ++ [line]))
        else (callN (installN · w.e (w.log ++ [line])) r h.ns).1, true, 0) := by
      unfold writeN
      rw [if_neg (by rw [hb]; simp)]
      simp [hc]
    have e2 : h.wr r k w line = ⟨if 0 ≤ lostN h.ns ∧ arrivesN (r.get (lostN h.ns)) = true then (callN (installN · w.e (w.log ++ [line])) r h.ns).1.set (lostN h.ns) (madeN w.e (w.log ++ [line]))
        else (callN (installN · w.e (w.log ++ [line])) r h.ns).1, h.ws.set k ⟨w.e, w.log ++ [line]⟩, h.tried, h.sure ++ [w.log ++ [line]]⟩ := by
      unfold Hist.wr
      rw [e]
      rfl
    rw [e2]
    obtain ⟨a, ha, b, hbb, hab⟩ := two_of (ask := (installN · w.e (w.log ++ [line]))) (r := r) (ns := h.ns) (by omega)
    have ga := install_what (what.2 a ha)
    have gb := install_what (what.2 b hbb)
    have hmax : ∀ x ∈ h.ws.set k ⟨w.e, w.log ++ [line]⟩, x.e ≤ w.e := fun x hx => by
      obtain ⟨y, hy, ey⟩ := back x hx
      rcases Int.lt_or_le w.e x.e with hlt | hle
      · exact absurd (hi.prom y hy (ix a) (ix b) ga.1 gb.1 (by have := ga.2.1; omega) (by have := gb.2.1; omega)) hab
      · exact hle
    have hsure := hin.sure (w := ⟨w.e, w.log ++ [line]⟩) hw' hmax fun i j _ _ k1 k2 =>
      third (P := fun i => ¬ Holds (w.e, w.log ++ [line]) ((callN (installN · w.e (w.log ++ [line])) r h.ns).1.fn i)) hab
        (fun k => k (by rw [ga.2.2]; exact ⟨Int.le_refl _, List.prefix_rfl⟩)) (fun k => k (by rw [gb.2.2]; exact ⟨Int.le_refl _, List.prefix_rfl⟩)) i j k1 k2
    refine { inv := ⟨gs ++ [(w.e, w.log ++ [line])], by show h.sure ++ _ = _; rw [hs]; simp, ?_⟩, tried0 := hg.tried0, tried := tried, wmax := wmax, wlen := wlen, nlen := ?_, slen := ?_, wn := ?_, sn := ?_ }
    · show Inv (N3.fn (if _ then _ else _)) _ _
      split
      · rw [set_fn]
        exact hsure.heal (w := ⟨w.e, w.log ++ [line]⟩) hw' hmax _
      · exact hsure
    · show N3.small (n + 1) (if _ then _ else _)
      split
      · rw [small_fn] at hsm ⊢
        intro i
        rw [set_fn]
        by_cases hik : i = ix (lostN h.ns)
        · rw [hik, upd3_same]
          exact hml
        · rw [upd3_ne hik]
          exact hsm i
      · exact hsm
    · intro s hs
      rcases List.mem_append.1 hs with hs | hs
      · exact slen s hs
      · cases List.mem_singleton.1 hs
        exact hml
    · have := hg.wn
      show (h.ws.set k _).length ≤ _
      simp
      omega
    · have := hg.sn
      show (h.sure ++ _).length ≤ _
      simp
      omega
  · have e : writeN r h.ns w.e (w.log ++ [line]) = ((callN (installN · w.e (w.log ++ [line])) r h.ns).1, false, 0) := by
      unfold writeN
      rw [if_neg (by rw [hb]; simp)]
      simp [hc]
    have e2 : h.wr r k w line = ⟨(callN (installN · w.e (w.log ++ [line])) r h.ns).1, h.ws.set k ⟨w.e, w.log ++ [line]⟩, h.tried, h.sure⟩ := by
      unfold Hist.wr
      rw [e]
      rfl
    rw [e2]
    exact { inv := ⟨gs, hs, hin⟩, tried0 := hg.tried0, tried := tried, wmax := wmax, wlen := wlen, nlen := hsm, slen := slen,
            wn := by have := hg.wn; show (h.ws.set k _).length ≤ _; simp; omega
            sn := Nat.le_succ_of_le hg.sn }

theorem Good.wr_ok {h : Hist} {n : Nat} (hg : Good h n) (hn : n < 400) (r : R3) {k : Nat} {w : Wr} (hk : h.ws[k]? = some w) (line : ByteArray) : (writeN r h.ns w.e (w.log ++ [line])).2.2 = 0 := by
  obtain ⟨gs, hs, hi⟩ := hg.inv
  have hw : w ∈ h.ws := List.mem_of_getElem? hk
  have hb : boundN w.e (w.log ++ [line]) = 0 := write_bound (hi.wpos w hw) (by have := hg.wlen w hw; simp; omega)
  unfold writeN
  rw [if_neg (by rw [hb]; simp)]

theorem isFront_of {a b : List ByteArray} (h : a <+: b) : isFront a b = true := by
  rw [isFront, List.isPrefixOf_iff_prefix]
  exact h.map _

theorem Good.up {h : Hist} {n : Nat} (hg : Good h n) : Good h (n + 1) := { hg with
  tried := by have := hg.tried; omega
  wlen := fun w hw => Nat.le_succ_of_le (hg.wlen w hw)
  nlen := ⟨Nat.le_succ_of_le hg.nlen.1, Nat.le_succ_of_le hg.nlen.2.1, Nat.le_succ_of_le hg.nlen.2.2⟩
  slen := fun s hs => Nat.le_succ_of_le (hg.slen s hs)
  wn := Nat.le_succ_of_le hg.wn
  sn := Nat.le_succ_of_le hg.sn }

/-- Which writer an act means. -/
def Act.at (a : Act) (h : Hist) : Nat := h.ws.length - 1 - a.who.toNat % h.ws.length

/-- What an act does. -/
def Hist.step (h : Hist) (a : Act) : Hist :=
  if a.what.tmod 8 < 2 then h.reco (reachN a.reach)
  else if a.what.tmod 8 = 7 then h.lose (a.who.tmod 3)
  else match h.ws[a.at h]? with
    | some w => h.wr (reachN a.reach) (a.at h) w a.line
    | none => h

theorem Good.step {h : Hist} {n : Nat} (hg : Good h n) (hn : n < 400) (a : Act) (ha : 0 ≤ a.who) : Good (h.step a) (n + 1) := by
  unfold Hist.step
  split
  · exact hg.reco _
  · split
    · refine hg.lose _ ?_
      have h1 : a.who.tmod 3 = a.who % 3 := Int.tmod_eq_emod_of_nonneg ha
      omega
    · split
      · rename_i w hw
        exact hg.wr hn _ hw _
      · exact hg.up

/-- Fronts, at every moment. -/
theorem Good.fronts {h : Hist} {n : Nat} (hg : Good h n) (i j : Fin 3) (he : (h.ns.fn i).e = (h.ns.fn j).e) : isFront (h.ns.fn i).log (h.ns.fn j).log = true ∨ isFront (h.ns.fn j).log (h.ns.fn i).log = true := by
  obtain ⟨gs, hs, hi⟩ := hg.inv
  rcases hi.same_epoch he with hp | hp
  · exact .inl (isFront_of hp)
  · exact .inr (isFront_of hp)

theorem Good.there {h : Hist} {n : Nat} (hg : Good h n) {s : List ByteArray} (hss : s ∈ h.sure) : ∃ i, (h.ns.fn i).lost = false ∧ isFront s (h.ns.fn i).log = true := by
  obtain ⟨gs, hs, hi⟩ := hg.inv
  rw [hs] at hss
  obtain ⟨S, hS, rfl⟩ := List.mem_map.1 hss
  -- two nodes that are not lost
  have two : ∃ i j : Fin 3, i ≠ j ∧ (h.ns.fn i).lost = false ∧ (h.ns.fn j).lost = false := by
    have l1 := hi.lost1
    cases h0 : (h.ns.fn 0).lost with
    | false =>
      cases h1 : (h.ns.fn 1).lost with
      | false => exact ⟨0, 1, by decide, h0, h1⟩
      | true =>
        cases h2 : (h.ns.fn 2).lost with
        | false => exact ⟨0, 2, by decide, h0, h2⟩
        | true => exact absurd (l1 1 2 h1 h2) (by decide)
    | true =>
      cases h1 : (h.ns.fn 1).lost with
      | true => exact absurd (l1 0 1 h0 h1) (by decide)
      | false =>
        cases h2 : (h.ns.fn 2).lost with
        | true => exact absurd (l1 0 2 h0 h2) (by decide)
        | false => exact ⟨1, 2, by decide, h1, h2⟩
  obtain ⟨i, j, hij, li, lj⟩ := two
  by_cases h1 : Holds S (h.ns.fn i)
  · exact ⟨i, li, isFront_of h1.2⟩
  · by_cases h2 : Holds S (h.ns.fn j)
    · exact ⟨j, lj, isFront_of h2.2⟩
    · exact absurd (hi.hold S hS i j li lj h1 h2) hij
end Go.Proofs.Ytehmaafnbgpkcaa
