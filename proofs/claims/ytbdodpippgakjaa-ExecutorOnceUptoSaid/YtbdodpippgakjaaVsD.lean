/- This text proves a part of what the claim needs: contracts of functions of the program. No condition. -/
import Derived.Test.YtbdodpippgakjaaVsC
set_option linter.unusedSimpArgs false
set_option linter.unusedVariables false

/- More weakenings: a nil slice in a cell is a slice without elements. -/
namespace Go.Vs

/-- Cells of a block up to nil slices. -/
theorem Wk.boxLe {n0 nx b : Nat} {tm : Tm} {hp : Hp} {cs cs' : List C} (hb : look hp b = some (.box cs)) (hle : CsLe cs cs') :
    Wk n0 ⟨tm, hp, nx⟩ ⟨tm, setL hp b (.box cs'), nx⟩ := fun hn => ⟨hn, fun CM γ a w hs => by
  have hlen := hle.get.1
  have hpe : look (setL hp b (.box cs')) = upd (look hp) b (.box cs') := look_setL _ _ _
  have hpb : look (setL hp b (.box cs')) b = some (.box cs') := by rw [hpe, upd_same]
  have hpo : ∀ i, i ≠ b → look (setL hp b (.box cs')) i = look hp i := fun i h => by rw [hpe, upd_other _ _ h]
  have hfr : Fr ((St.mk tm hp nx).cx w γ CM) ((St.mk tm (setL hp b (.box cs')) nx).cx w γ CM) :=
    { os := rfl
      tape := rfl
      output := rfl
      size := Nat.le_refl _
      same := fun _ _ _ => rfl
      muts := fun c _ ⟨i, blk, g1, g2, g3⟩ => by
        have g1 : look (setL hp b (.box cs')) i = some blk := g1
        by_cases hib : i = b
        · exact ⟨b, _, hb, rfl, hib ▸ g3⟩
        · rw [hpo i hib] at g1
          exact ⟨i, blk, g1, g2, g3⟩
      sz := fun c arr e fr h => ⟨arr, h, rfl⟩
      cm := rfl }
  have hev : Ev (fun i => i < nx) ((St.mk tm hp nx).cx w γ CM) ((St.mk tm (setL hp b (.box cs')) nx).cx w γ CM) :=
    ⟨fun i hi => hi, fun i hi => by
      by_cases hib : i = b
      · subst hib
        unfold EvB
        rw [show ((St.mk tm hp nx).cx w γ CM).hp i = some (.box cs) from hb]
        exact .inr ⟨_, hpb, hlen.symm, rfl⟩
      · exact EvB.same (hpo i hib) rfl⟩
  refine ⟨γ, { hp := fun i blk hi => ?_, inj := hs.inj, lt := hs.lt, cm := hs.cm, tm := fun t => (hs.tm t).on hfr hev, defers := hs.defers }, hfr, hev.sub fun i hi => Nat.lt_of_lt_of_le hi hn⟩
  have hi : look (setL hp b (.box cs')) i = some blk := hi
  by_cases hib : i = b
  · subst hib
    rw [hpb] at hi
    cases hi
    obtain ⟨h1, c, arr, e, h2, h3, h4, h5⟩ := hs.hp i _ hb
    refine ⟨h1, c, arr, e, h2, h3, h4.trans hlen, fun k y hk => ?_⟩
    obtain ⟨x, hx, hxy⟩ := hle.get.2 k y hk
    exact hxy.on ((h5 k x hx).on hfr hev)
  · rw [hpo i hib] at hi
    have := hs.hp i blk hi
    exact ⟨this.1, this.2.on hfr hev rfl fun _ _ => rfl⟩⟩

/-- Elements of a block up to nil slices. -/
theorem Wk.blkLe {n0 nx b esz : Nat} {tm : Tm} {hp : Hp} {es es' : List (List D)} {fz : Bool} (hb : look hp b = some (.sl esz es fz)) (hle : ElsLe es es') :
    Wk n0 ⟨tm, hp, nx⟩ ⟨tm, setL hp b (.sl esz es' fz), nx⟩ := fun hn => ⟨hn, fun CM γ a w hs => by
  obtain ⟨hlen, hrow⟩ := hle.get
  have hpe : look (setL hp b (.sl esz es' fz)) = upd (look hp) b (.sl esz es' fz) := look_setL _ _ _
  have hpb : look (setL hp b (.sl esz es' fz)) b = some (.sl esz es' fz) := by rw [hpe, upd_same]
  have hpo : ∀ i, i ≠ b → look (setL hp b (.sl esz es' fz)) i = look hp i := fun i h => by rw [hpe, upd_other _ _ h]
  have hfr : Fr ((St.mk tm hp nx).cx w γ CM) ((St.mk tm (setL hp b (.sl esz es' fz)) nx).cx w γ CM) :=
    { os := rfl
      tape := rfl
      output := rfl
      size := Nat.le_refl _
      same := fun _ _ _ => rfl
      muts := fun c _ ⟨i, blk, g1, g2, g3⟩ => by
        have g1 : look (setL hp b (.sl esz es' fz)) i = some blk := g1
        by_cases hib : i = b
        · subst hib
          rw [hpb] at g1
          cases g1
          exact ⟨i, _, hb, g2, g3⟩
        · rw [hpo i hib] at g1
          exact ⟨i, blk, g1, g2, g3⟩
      sz := fun c arr e fr h => ⟨arr, h, rfl⟩
      cm := rfl }
  have hev : Ev (fun i => i < nx) ((St.mk tm hp nx).cx w γ CM) ((St.mk tm (setL hp b (.sl esz es' fz)) nx).cx w γ CM) :=
    ⟨fun i hi => hi, fun i hi => by
      by_cases hib : i = b
      · subst hib
        unfold EvB
        rw [show ((St.mk tm hp nx).cx w γ CM).hp i = some (.sl esz es fz) from hb]
        exact .inr ⟨_, _, hpb, .inl ⟨hlen.symm, rfl⟩⟩
      · exact EvB.same (hpo i hib) rfl⟩
  refine ⟨γ, { hp := fun i blk hi => ?_, inj := hs.inj, lt := hs.lt, cm := hs.cm, tm := fun t => (hs.tm t).on hfr hev, defers := hs.defers }, hfr, hev.sub fun i hi => Nat.lt_of_lt_of_le hi hn⟩
  have hi : look (setL hp b (.sl esz es' fz)) i = some blk := hi
  by_cases hib : i = b
  · subst hib
    rw [hpb] at hi
    cases hi
    obtain ⟨h1, h2, h3⟩ := hs.hp i _ hb
    have get : ∀ j b, es'[j]? = some b → ∃ a, es[j]? = some a := fun j b hb => by
      have := (List.getElem?_eq_some_iff.1 hb).1
      exact ⟨es[j], List.getElem?_eq_getElem (by omega)⟩
    refine ⟨h1, fun cs hcs => ?_, ?_⟩
    · obtain ⟨j, hj⟩ := List.getElem?_of_mem hcs
      obtain ⟨a, ha⟩ := get j cs hj
      rw [← (hrow j a cs ha hj).get.1]
      exact h2 a (List.mem_of_getElem? ha)
    · rcases h3 with ⟨g1, g2⟩ | ⟨c, arr, e, g1, g2, g3, g4⟩
      · subst g2
        exact .inl ⟨g1, List.eq_nil_of_length_eq_zero hlen.symm⟩
      · refine .inr ⟨c, arr, e, g1, g2, by rw [← hlen]; exact g3, fun j cs k y hj hk => ?_⟩
        obtain ⟨a, ha⟩ := get j cs hj
        obtain ⟨q1, q2⟩ := (hrow j a cs ha hj).get
        have hk' := (List.getElem?_eq_some_iff.1 hk).1
        have hx : a[k]? = some a[k] := List.getElem?_eq_getElem (by omega)
        exact ((q2 k _ y hx hk).on (g4 j a k _ ha hx)).on hfr
  · rw [hpo i hib] at hi
    have := hs.hp i blk hi
    exact ⟨this.1, this.2.on hfr hev rfl fun _ _ => rfl⟩⟩

end Go.Vs

/- More weakenings: a slice of the call's own that is never written again is data. -/
namespace Go.Vs

/-- Cells of a block, read in another way. -/
theorem Wk.boxOn {n0 nx b : Nat} {tm : Tm} {hp : Hp} {cs cs' : List C} (hb : look hp b = some (.box cs)) (hlen : cs.length = cs'.length)
    (hle : ∀ (CM : Nat → Prop) (γ : Gam) (w : World), HRel ((St.mk tm hp nx).cx w γ CM) → ∀ (k : Nat) (y : C), cs'[k]? = some y → ∃ x, cs[k]? = some x ∧
      ∀ v, CRel ((St.mk tm hp nx).cx w γ CM) v x → CRel ((St.mk tm hp nx).cx w γ CM) v y) :
    Wk n0 ⟨tm, hp, nx⟩ ⟨tm, setL hp b (.box cs'), nx⟩ := fun hn => ⟨hn, fun CM γ a w hs => by
  have hpe : look (setL hp b (.box cs')) = upd (look hp) b (.box cs') := look_setL _ _ _
  have hpb : look (setL hp b (.box cs')) b = some (.box cs') := by rw [hpe, upd_same]
  have hpo : ∀ i, i ≠ b → look (setL hp b (.box cs')) i = look hp i := fun i h => by rw [hpe, upd_other _ _ h]
  have hfr : Fr ((St.mk tm hp nx).cx w γ CM) ((St.mk tm (setL hp b (.box cs')) nx).cx w γ CM) :=
    { os := rfl
      tape := rfl
      output := rfl
      size := Nat.le_refl _
      same := fun _ _ _ => rfl
      muts := fun c _ ⟨i, blk, g1, g2, g3⟩ => by
        have g1 : look (setL hp b (.box cs')) i = some blk := g1
        by_cases hib : i = b
        · exact ⟨b, _, hb, rfl, hib ▸ g3⟩
        · rw [hpo i hib] at g1
          exact ⟨i, blk, g1, g2, g3⟩
      sz := fun c arr e fr h => ⟨arr, h, rfl⟩
      cm := rfl }
  have hev : Ev (fun i => i < nx) ((St.mk tm hp nx).cx w γ CM) ((St.mk tm (setL hp b (.box cs')) nx).cx w γ CM) :=
    ⟨fun i hi => hi, fun i hi => by
      by_cases hib : i = b
      · subst hib
        unfold EvB
        rw [show ((St.mk tm hp nx).cx w γ CM).hp i = some (.box cs) from hb]
        exact .inr ⟨_, hpb, hlen.symm, rfl⟩
      · exact EvB.same (hpo i hib) rfl⟩
  refine ⟨γ, { hp := fun i blk hi => ?_, inj := hs.inj, lt := hs.lt, cm := hs.cm, tm := fun t => (hs.tm t).on hfr hev, defers := hs.defers }, hfr, hev.sub fun i hi => Nat.lt_of_lt_of_le hi hn⟩
  have hi : look (setL hp b (.box cs')) i = some blk := hi
  by_cases hib : i = b
  · subst hib
    rw [hpb] at hi
    cases hi
    obtain ⟨h1, c, arr, e, h2, h3, h4, h5⟩ := hs.hp i _ hb
    refine ⟨h1, c, arr, e, h2, h3, h4.trans hlen, fun k y hk => ?_⟩
    obtain ⟨x, hx, hxy⟩ := hle CM γ w hs.toHRel k y hk
    exact (hxy _ (h5 k x hx)).on hfr hev
  · rw [hpo i hib] at hi
    have := hs.hp i blk hi
    exact ⟨this.1, this.2.on hfr hev rfl fun _ _ => rfl⟩⟩


/-- A block is never written again. -/
theorem Wk.frz {n0 nx b esz : Nat} {tm : Tm} {hp : Hp} {es : List (List D)} {fz : Bool} (hb : look hp b = some (.sl esz es fz)) :
    Wk n0 ⟨tm, hp, nx⟩ ⟨tm, setL hp b (.sl esz es true), nx⟩ := fun hn => ⟨hn, fun CM γ a w hs => by
  obtain ⟨g1, g2, g3⟩ := frz_rel [.c (.ref b 0 0 0)] hs
  have e : frzVs hp [.c (.ref b 0 0 0)] = setL hp b (.sl esz es true) := by simp [frzVs, frzV, hb]
  rw [e] at g1 g2 g3
  exact ⟨γ, g1, g2, g3.sub fun i hi => Nat.lt_of_lt_of_le hi hn⟩⟩

theorem ref_data {x : Cx} {v : Value} {b g off n esz : Nat} {es : List (List D)} (hh : HRel x) (hb : x.hp b = some (.sl esz es true)) (hl : es.length = g) (hon : off + n ≤ g)
    (hv : CRel x v (.ref b g off n)) : CRel x v (.d (.sl esz ((es.drop off).take n))) := by
  refine .d _ _ ?_
  cases hv with
  | refNil _ _ _ hb2 _ =>
    rw [hb] at hb2
    cases hb2
    simp
    exact .slNil _
  | ref _ c _ _ cap esz' es' fz' arr e fr hb2 hg hw h1 h2 h3 hu =>
    rw [hb] at hb2
    cases hb2
    exact sl_part (hh.hp b _ hb).2 hg h1 h2 (fz_ok hh hb hg) fun _ h => h
  | refOld _ _ _ _ _ _ _ h =>
    rcases h with h | ⟨_, _, _, h, hl2⟩
    · rw [hb] at h; simp at h
    · rw [hb] at h; cases h; omega

/-- A cell that leads to a frozen block is data. -/
theorem Wk.cellData {n0 nx b b' esz g off n : Nat} {tm : Tm} {hp : Hp} {cs : List C} {es : List (List D)} (j : Nat) (hb : look hp b = some (.box cs)) (hj : cs[j]? = some (.ref b' g off n))
    (hb' : look hp b' = some (.sl esz es true)) (hl : es.length = g) (hon : off + n ≤ g) :
    Wk n0 ⟨tm, hp, nx⟩ ⟨tm, setL hp b (.box (cs.set j (.d (.sl esz ((es.drop off).take n))))), nx⟩ :=
  Wk.boxOn hb (by simp) fun CM γ w hh k y hk => by
    rw [List.getElem?_set] at hk
    split at hk
    · rename_i e
      subst e
      split at hk
      · cases hk
        exact ⟨_, hj, fun v hv => ref_data hh hb' hl hon hv⟩
      · simp at hk
    · exact ⟨y, hk, fun v hv => hv⟩

/-- A slot that leads to a frozen block is data. -/
theorem Wk.slotData {n0 nx t b' esz g off n : Nat} {tm : Tm} {hp : Hp} {es : List (List D)} (ht : getV tm t = .c (.ref b' g off n))
    (hb' : look hp b' = some (.sl esz es true)) (hl : es.length = g) (hon : off + n ≤ g) :
    Wk n0 ⟨tm, hp, nx⟩ ⟨setL tm t (.c (.d (.sl esz ((es.drop off).take n)))), hp, nx⟩ := fun hn => ⟨hn, fun CM γ a w hs => by
  refine ⟨γ, { hs.toHRel with tm := fun i => ?_, defers := hs.defers }, Fr.refl _, (Ev.refl fun _ h => h).sub fun i hi => Nat.lt_of_lt_of_le hi hn⟩
  show VRel _ _ (getV (setL tm t _) i)
  rw [getV_setL]
  by_cases hi : i = t
  · subst hi
    simp only [if_true]
    have := hs.tm i
    rw [show getV tm i = _ from ht] at this
    exact .c _ _ (ref_data hs.toHRel hb' hl hon this.c_inv)
  · dsimp only
    rw [if_neg hi]
    exact hs.tm i⟩
end Go.Vs

/- Sequences without a computed condition; a box that is never written again is data. -/
namespace Go.Vs

def delL {α : Type} : List (Nat × α) → Nat → List (Nat × α)
  | [], _ => []
  | (k, v) :: s, j => if k = j then delL s j else (k, v) :: delL s j
theorem look_delL {α : Type} : ∀ (s : List (Nat × α)) (j i : Nat), look (delL s j) i = if i = j then none else look s i
  | [], j, i => by simp [delL, look]
  | (k, v) :: s, j, i => by
    have ih := look_delL s j i
    simp only [delL]
    split
    · rename_i h
      rw [ih]
      by_cases hi : i = j
      · simp [hi]
      · have : ¬ k = i := fun e => hi (by omega)
        simp [look, hi, this]
    · rename_i h
      simp only [look]
      by_cases hk : k = i
      · have : ¬ i = j := fun e => h (by omega)
        simp [hk, this]
      · simp only [hk, if_false]
        exact ih
attribute [go_sem] delL

/-- The world is the same; a block is forgotten. -/
theorem Wk.boxData {n0 nx t b off : Nat} {tm : Tm} {hp : Hp} {ds : List D} (ht : getV tm t = .c (.ptr b off)) (hb : look hp b = some (.box (ds.map .d))) (hoff : off ≤ ds.length) :
    Wk n0 ⟨tm, hp, nx⟩ ⟨setL tm t (.c (.d (.fp (ds.drop off)))), delL hp b, nx⟩ := fun hn => ⟨hn, fun CM γ a w hs => by
  have hlook : ∀ i blk, look (delL hp b) i = some blk → look hp i = some blk ∧ i ≠ b := fun i blk h => by
    rw [look_delL] at h
    split at h
    · simp at h
    · exact ⟨h, by assumption⟩
  have hfr : Fr ((St.mk tm hp nx).cx w γ CM) ((St.mk (setL tm t (.c (.d (.fp (ds.drop off))))) (delL hp b) nx).cx w γ CM) :=
    { os := rfl
      tape := rfl
      output := rfl
      size := Nat.le_refl _
      same := fun _ _ _ => rfl
      muts := fun c _ ⟨i, blk, g1, g2, g3⟩ => ⟨i, blk, (hlook i blk g1).1, g2, g3⟩
      sz := fun c arr e fr h => ⟨arr, h, rfl⟩
      cm := rfl }
  have hev : Ev (fun b => b < nx) ((St.mk tm hp nx).cx w γ CM) ((St.mk (setL tm t (.c (.d (.fp (ds.drop off))))) (delL hp b) nx).cx w γ CM) := ⟨fun _ h => h, fun i _ => by
    have e : look (delL hp b) i = if i = b then none else look hp i := look_delL hp b i
    by_cases hi : i = b
    · rw [if_pos hi] at e
      unfold EvB
      split
      · exact e
      · exact .inl e
      · exact .inl e
      · exact .inl e
    · rw [if_neg hi] at e
      exact EvB.same e rfl⟩
  refine ⟨γ, { hp := fun i blk hi => ?_, inj := hs.inj, lt := hs.lt, cm := hs.cm, tm := fun j => ?_, defers := hs.defers }, hfr, hev.sub fun b hb => Nat.lt_of_lt_of_le hb hn⟩
  · have hi : look (delL hp b) i = some blk := hi
    obtain ⟨g1, g2⟩ := hs.hp i blk (hlook i blk hi).1
    exact ⟨g1, g2.on hfr hev rfl fun _ _ => rfl⟩
  · show VRel _ _ (getV (setL tm t (.c (.d (.fp (ds.drop off))))) j)
    rw [getV_setL]
    by_cases hj : j = t
    · subst hj
      simp only [if_true]
      have := hs.tm j
      rw [show getV tm j = _ from ht] at this
      have hc := this.c_inv
      have hb0 : ((St.mk tm hp nx).cx w γ CM).hp b = some (.box (ds.map .d)) := hb
      refine .c _ _ (.d _ _ ?_)
      generalize a.tmps.getD j undef = v at hc
      cases hc with
      | ptrOld _ _ _ _ _ h => rw [hb0] at h; simp at h
      | ptr _ c _ cs h hg hu =>
        obtain ⟨_, c', arr, e, g1, g2, g3, g4⟩ := hs.hp b _ hb0
        rw [hg] at g1
        cases g1
        have hnm : ¬ Mut γ (look (delL hp b)) c := fun ⟨i, blk, k1, k2, k3⟩ => (hlook i blk k1).2 (hs.inj i b c k3 hg)
        refine .fp c off (ds.drop off) arr e (0, 0) ⟨(hs.lt b c hg).2, hnm⟩ g2 ?_ fun k y hk => ?_
        · have g3 : arr.size = (ds.map C.d).length := g3
          simp at g3 ⊢
          omega
        · have hk' : ds[off + k]? = some y := by simpa [List.getElem?_drop] using hk
          have hd := g4 (off + k) (.d y) (by simp [hk'])
          exact DRel.on hfr hd.d_inv
    · dsimp only
      rw [if_neg hj]
      exact (hs.tm j).on hfr hev⟩

/-- A map that is never written again is data. -/
theorem Wk.mapData {n0 nx t b : Nat} {tm : Tm} {hp : Hp} {es : List (D × D)} (ht : getV tm t = .c (.mref b)) (hb : look hp b = some (.mp es)) :
    Wk n0 ⟨tm, hp, nx⟩ ⟨setL tm t (.c (.d (.mp es))), delL hp b, nx⟩ := fun hn => ⟨hn, fun CM γ a w hs => by
  have hlook : ∀ i blk, look (delL hp b) i = some blk → look hp i = some blk ∧ i ≠ b := fun i blk h => by
    rw [look_delL] at h
    split at h
    · simp at h
    · exact ⟨h, by assumption⟩
  have hfr : Fr ((St.mk tm hp nx).cx w γ CM) ((St.mk (setL tm t (.c (.d (.mp es)))) (delL hp b) nx).cx w γ CM) :=
    { os := rfl
      tape := rfl
      output := rfl
      size := Nat.le_refl _
      same := fun _ _ _ => rfl
      muts := fun c _ ⟨i, blk, g1, g2, g3⟩ => ⟨i, blk, (hlook i blk g1).1, g2, g3⟩
      sz := fun c arr e fr h => ⟨arr, h, rfl⟩
      cm := rfl }
  have hev : Ev (fun b => b < nx) ((St.mk tm hp nx).cx w γ CM) ((St.mk (setL tm t (.c (.d (.mp es)))) (delL hp b) nx).cx w γ CM) := ⟨fun _ h => h, fun i _ => by
    have e : look (delL hp b) i = if i = b then none else look hp i := look_delL hp b i
    by_cases hi : i = b
    · rw [if_pos hi] at e
      unfold EvB
      split
      · exact e
      · exact .inl e
      · exact .inl e
      · exact .inl e
    · rw [if_neg hi] at e
      exact EvB.same e rfl⟩
  refine ⟨γ, { hp := fun i blk hi => ?_, inj := hs.inj, lt := hs.lt, cm := hs.cm, tm := fun j => ?_, defers := hs.defers }, hfr, hev.sub fun b hb => Nat.lt_of_lt_of_le hb hn⟩
  · have hi : look (delL hp b) i = some blk := hi
    obtain ⟨g1, g2⟩ := hs.hp i blk (hlook i blk hi).1
    exact ⟨g1, g2.on hfr hev rfl fun _ _ => rfl⟩
  · show VRel _ _ (getV (setL tm t (.c (.d (.mp es)))) j)
    rw [getV_setL]
    by_cases hj : j = t
    · subst hj
      simp only [if_true]
      have := hs.tm j
      rw [show getV tm j = _ from ht] at this
      have hc := this.c_inv
      have hb0 : ((St.mk tm hp nx).cx w γ CM).hp b = some (.mp es) := hb
      refine .c _ _ (.d _ _ ?_)
      generalize a.tmps.getD j undef = v at hc
      cases hc with
      | mrefOld _ _ _ _ h => rw [hb0] at h; simp at h
      | mref _ c es' h hg hu =>
        obtain ⟨_, c', ents, clk, g1, g2, g3, g4, g5⟩ := hs.hp b _ hb0
        rw [hg] at g1
        cases g1
        have hnm : ¬ Mut γ (look (delL hp b)) c := fun ⟨i, blk, k1, k2, k3⟩ => (hlook i blk k1).2 (hs.inj i b c k3 hg)
        exact .mp c ents clk es ⟨(hs.lt b c hg).2, hnm⟩ g2 g3 (fun k y hk => DRel.on hfr (g4 k y hk)) fun k y hk => DRel.on hfr (g5 k y hk)
    · dsimp only
      rw [if_neg hj]
      exact (hs.tm j).on hfr hev⟩

section
variable {P : Program} {tv : Tv} {N n0 : Nat} {σ : St} {Q : Kn (Exit → St → Prop)}
theorem wT_seq {a b : LC} (h : wT P N n0 (L := ⟨a⟩) σ (Q := ⟨thenT P N n0 b Q.go⟩)) : wT P N n0 (L := ⟨.seq a b⟩) σ (Q := Q) := by
  unfold wT at *
  exact T.seq h
@[go_sem] theorem wQ_thenT {b : LC} {q : Exit → St → Prop} : wQ .normal σ (Q := ⟨thenT P N n0 b q⟩) = wT P N n0 (L := ⟨b⟩) σ (Q := ⟨q⟩) := by
  unfold wT wQ
  rfl
@[go_sem] theorem wQ_thenT_ret {b : LC} {q : Exit → St → Prop} : wQ .ret σ (Q := ⟨thenT P N n0 b q⟩) = wQ .ret σ (Q := ⟨q⟩) := by
  unfold wQ
  rfl
@[go_sem] theorem wQ_thenT_exit {b : LC} {q : Exit → St → Prop} {id : Nat} : wQ (.exit id) σ (Q := ⟨thenT P N n0 b q⟩) = wQ (.exit id) σ (Q := ⟨q⟩) := by
  unfold wQ
  rfl
/-- A contract from the logic, without a computed condition at its opening. -/
theorem Gives.of_wT {P : Program} {tv : Tv} (env : Env P tv) {f : Nat} {fn : Func} {L : LC} (hf : P.funcs[f]? = some fn) (hn : (fn.name == "runtime.NumGoroutine") = false)
    (hl : fn.body.bind (light fn.ntmps) = some L) {n : Nat} (hnt : fn.ntmps = n) {rs : List ResultVar} (hrs : fn.results.toList = rs) {args : List PV} (hlen : args.length ≤ n) (own : List Nat) {res : V} {blks : List Blk} (hnd : own.Nodup)
    (h : wT P n 0 (L := ⟨L⟩) ⟨argTm 0 args, [], 0⟩ (Q := ⟨retT P tv own rs res blks⟩)) : Gives P f args res blks := by
  subst hnt hrs
  obtain ⟨code, hb, hl⟩ := Option.bind_eq_some_iff.1 hl
  unfold wT at h
  exact Gives.of_T env hf hn hb hl hlen own hnd h
end

theorem nilRef_ctx {CM : Nat → Prop} {w : World} {γ : Gam} {w' : World} {v : Value} {res : V} (esz : Nat) (hp : PostC CM w γ [] w' v res) :
    Fr ⟨w', γ, fun j => ([] : List Blk)[j]?, CM, fun b => b < 0⟩ ⟨w', γ, fun j => [Blk.sl esz [] false][j]?, CM, fun b => b < 1⟩ ∧
    HRel ⟨w', γ, fun j => [Blk.sl esz [] false][j]?, CM, fun b => b < 1⟩ ∧ Fr (Cx.start w CM) ⟨w', γ, fun j => [Blk.sl esz [] false][j]?, CM, fun b => b < 1⟩ ∧ ∀ b c, γ b ≠ some c := by
  have hγ : ∀ b c, γ b ≠ some c := fun b c h => by have := hp.dom b c h; simp at this
  have hf : Fr ⟨w', γ, fun j => ([] : List Blk)[j]?, CM, fun b => b < 0⟩ ⟨w', γ, fun j => [Blk.sl esz [] false][j]?, CM, fun b => b < 1⟩ :=
    { os := rfl
      tape := rfl
      output := rfl
      size := Nat.le_refl _
      same := fun _ _ _ => rfl
      muts := fun c _ ⟨b, blk, g1, g2, g3⟩ => absurd g3 (hγ b c)
      sz := fun c arr e fr h => ⟨arr, h, rfl⟩
      cm := rfl }
  refine ⟨hf, { hp := fun b blk hb => ?_, inj := fun b b' c h => absurd h (hγ b c), lt := fun b c h => absurd h (hγ b c), cm := hp.h.cm }, hp.fr.trans hf, hγ⟩
  have hb : [Blk.sl esz [] false][b]? = some blk := hb
  cases b with
  | zero =>
    simp at hb
    subst hb
    refine ⟨Nat.zero_lt_one, fun cs h => by simp at h, .inl ⟨?_, rfl⟩⟩
    cases h : γ 0 with
    | none => exact h
    | some c => exact absurd h (hγ 0 c)
  | succ b => simp at hb

/-- A nil slice that is returned stands for one of the caller's own, without elements. -/
theorem Gives.nilRef {P : Program} {f : Nat} {ps : List PV} (esz : Nat) (h : Gives P f ps (.c (.d .nilSl)) []) : Gives P f ps (.c (.ref 0 0 0 0)) [.sl esz [] false] := by
  obtain ⟨fn, hf, hn, hb, h⟩ := h
  refine ⟨fn, hf, hn, hb, fun CM w vs hCM hps => (h CM w vs hCM hps).mono ?_⟩
  rintro en w' ⟨v, γ, rfl, hp⟩
  obtain ⟨k1, k2, k3, k4⟩ := nilRef_ctx esz hp
  refine ⟨v, γ, rfl, { h := k2, v := ?_, fr := k3, new := hp.new, dom := fun b c h => absurd h (k4 b c) }⟩
  have := hp.v.nilSl_inv
  subst this
  exact .c _ _ (.refNil 0 esz false rfl Nat.zero_lt_one)

/-- The same of a cell. -/
theorem Gives.nilRefAgg {P : Program} {f : Nat} {ps : List PV} {cs : List C} (esz j : Nat) (hj : cs[j]? = some (.d .nilSl)) (h : Gives P f ps (.agg cs) []) :
    Gives P f ps (.agg (cs.set j (.ref 0 0 0 0))) [.sl esz [] false] := by
  obtain ⟨fn, hf, hn, hb, h⟩ := h
  refine ⟨fn, hf, hn, hb, fun CM w vs hCM hps => (h CM w vs hCM hps).mono ?_⟩
  rintro en w' ⟨v, γ, rfl, hp⟩
  obtain ⟨k1, k2, k3, k4⟩ := nilRef_ctx esz hp
  refine ⟨v, γ, rfl, { h := k2, v := ?_, fr := k3, new := hp.new, dom := fun b c h => absurd h (k4 b c) }⟩
  have hv := hp.v
  cases hv with
  | agg arr _ hsz hr =>
    refine .agg arr _ (by simpa using hsz) fun k y hk => ?_
    rw [List.getElem?_set] at hk
    split at hk
    · rename_i e
      subst e
      split at hk
      · cases hk
        have := (VRel.c _ _ (hr j _ hj)).nilSl_inv
        rw [this]
        exact .refNil 0 esz false rfl Nat.zero_lt_one
      · simp at hk
    · exact (hr k y hk).on k1 ⟨fun b hb => by have hb : b < 0 := hb; omega, fun b hb => by have hb : b < 0 := hb; omega⟩
end Go.Vs

/- The walk's rules that the library itself has. -/
namespace Go.Vs
attribute [go_sem] List.length_cons List.length_nil List.map_cons List.map_nil List.reverse_cons List.reverse_nil List.nil_append List.cons_append Bool.false_eq_true Nat.zero_le List.flatten_nil List.flatten_cons true_and and_true and_self List.append_nil Nat.zero_add Nat.add_zero List.contains_nil Nat.le_refl List.take_zero List.take_succ_cons List.drop_zero List.drop_succ_cons List.take_length List.take_nil List.drop_nil Option.map_some Option.map_none List.getElem?_cons_zero List.getElem?_cons_succ List.getElem?_nil Option.some.injEq Int.toNat_zero decide_true decide_false Bool.not_true Bool.not_false beq_self_eq_true List.mapM_cons List.mapM_nil wrap64 wrap8 Int.cast_ofNat_Int Int.natCast_eq_zero decide_eq_true_eq Bool.or_false Bool.or_true Bool.or_self Bool.false_or Bool.true_or Option.bind_eq_bind Option.bind_some Option.pure_def Bool.and_self Bool.and_true Bool.true_and Bool.and_false Bool.false_and
end Go.Vs
